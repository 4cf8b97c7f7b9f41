/- A part of the proof that the statement FnExactChangedBoxesSaid holds, under no condition of its own: The program's ChangedBoxes and the reference's return the same, and what is returned is held by nobody else: over lists of numbers alone. -/
import Derived.Test.YtbgohbinonkhfaaCFnExactChangedBoxes1
import Derived.Test.YtbgohbinonkhfaaCFnExactChangedBoxes3
import Derived.Test.YtbgohbinonkhfaaCFnExactChangedBoxes4
import Derived.Deep.Slices
import Derived.Deep.Fields
import Derived.ChangeSame
import Derived.ProofKit
import Derived.OpenShut
import Derived.ShutString
import Derived.ChangeOld
import Derived.SizedLaws
import GoSem.Claim
import Derived.Test.YtbgohbinonkhfaaCFnExactChangedBoxes2
import Derived.Test.YtbgohbinonkhfaaRows
import Derived.JoinedOf
import Derived.KernelRfl
import Derived.WalkKit
import Derived.Below
import Derived.Carry
namespace Go.Proofs.Ytbgohbinonkhfaa.Q
open Go.RowKit Go.Proofs.YtbgohbinonkhfaaW.PrintWords Go.Proofs.YtbgohbinonkhfaaW.PrintLast Go.Proofs.YtbgohbinonkhfaaW.PrintMore
attribute [local go_sem] max2_int min2_int max_two min_two max_three min_three max_four min_four
set_option linter.unusedVariables false
set_option linter.unusedSimpArgs false
/-! ### laws_FnExactChangedBoxes: function 8 -/
noncomputable def laws_FnExactChangedBoxes.j0 : Nat → List (S60) → List (S60) → Bool → Int → Int → Int → List Int → Int → Int → Int → List Int → Option (Bool)
  | 0, _, _, _, _, _, _, _, _, _, _, _ => none
  | k + 1, x6, x9, x63, x9002000, x9002001, x9002002, x9002003, x9003000, x9003001, x9003002, x9003003 => if x63 = true then (some false) else ((laws_markBoxS.f k x9 1).bind fun bt9057 => ((laws_heldBoxS.f k bt9057.2 1).bind fun t9059 => (if t9059 < 0 then (some false) else (if t9059 = bt9057.1 then ((laws_toImage.f k x9002000 x9002001 x9002002 x9002003).bind fun bt9060 => ((laws_toImage.f k x9003000 x9003001 x9003002 x9003003).bind fun bt9066 => ((impl_ChangedBoxes.f bt9060.1 bt9060.2.1 bt9060.2.2.1 bt9060.2.2.2 bt9066.1 bt9066.2.1 bt9066.2.2.1 bt9066.2.2.2).bind fun t9072 => ((laws_eqBoxS.f k t9072 x6).bind fun t9075 => (if t9075 = true then ((laws_heldBoxS.f k bt9057.2 1).bind fun t9076 => (if t9076 < 0 then (some false) else (if t9076 = bt9057.1 then (some true) else (some false)))) else (some false)))))) else (some false)))))
noncomputable def laws_FnExactChangedBoxes.f (k : Nat) (a0_0 : Int) (a0_1 : Int) (a0_2 : Int) (l0_3 : List Int) (a1_0 : Int) (a1_1 : Int) (a1_2 : Int) (l1_3 : List Int) : Option (Bool) := (laws_szImage.f a0_0 a0_1 a0_2 l0_3 1048576).bind fun t9003 => (if t9003 < 0 then (some true) else ((laws_szImage.f a1_0 a1_1 a1_2 l1_3 t9003).bind fun t9004 => (if t9004 < 0 then (some true) else ((laws_toImage.f k a0_0 a0_1 a0_2 l0_3).bind fun bt9005 => ((laws_toImage.f k a1_0 a1_1 a1_2 l1_3).bind fun bt9011 => ((spec_ChangedBoxes.f k bt9005.1 bt9005.2.1 bt9005.2.2.1 bt9005.2.2.2 bt9011.1 bt9011.2.1 bt9011.2.2.1 bt9011.2.2.2).bind fun t9017 => ((laws_toImage.f k a0_0 a0_1 a0_2 l0_3).bind fun bt9020 => ((laws_toImage.f k a1_0 a1_1 a1_2 l1_3).bind fun bt9027 => ((impl_ChangedBoxes.f bt9020.1 bt9020.2.1 bt9020.2.2.1 bt9020.2.2.2 bt9027.1 bt9027.2.1 bt9027.2.2.1 bt9027.2.2.2).bind fun t9034 => ((laws_eqBoxS.f k t9034 t9017).bind fun t9037 => (if t9037 = true then ((laws_toImage.f k a0_0 a0_1 a0_2 l0_3).bind fun bt9038 => ((laws_eqImage.f k bt9020.1 bt9020.2.1 bt9020.2.2.1 bt9020.2.2.2 bt9038.1 bt9038.2.1 bt9038.2.2.1 bt9038.2.2.2).bind fun t9044 => (if t9044 = true then ((laws_toImage.f k a1_0 a1_1 a1_2 l1_3).bind fun bt9045 => ((laws_eqImage.f k bt9027.1 bt9027.2.1 bt9027.2.2.1 bt9027.2.2.2 bt9045.1 bt9045.2.1 bt9045.2.2.1 bt9045.2.2.2).bind fun t9051 => (if t9051 = true then ((laws_markImage.f k bt9020.1 bt9020.2.1 bt9020.2.2.1 bt9020.2.2.2 1).bind fun bt9052 => ((laws_markImage.f k bt9027.1 bt9027.2.1 bt9027.2.2.1 bt9027.2.2.2 bt9052.1).bind fun bt9054 => (if bt9054.1 < 0 then (laws_FnExactChangedBoxes.j0 k t9017 t9034 true a0_0 a0_1 a0_2 l0_3 a1_0 a1_1 a1_2 l1_3) else ((laws_eqBoxS.f k t9034 t9017).bind fun t9056 => (laws_FnExactChangedBoxes.j0 k t9017 t9034 (!t9056) a0_0 a0_1 a0_2 l0_3 a1_0 a1_1 a1_2 l1_3))))) else (some false)))) else (some false)))) else (some false))))))))))))
theorem laws_FnExactChangedBoxes.mono_l : ∀ k, (∀ y0 y1 y2 y3 y4 y5 y6 y7 y8 y9 y10, LeO (laws_FnExactChangedBoxes.j0 k y0 y1 y2 y3 y4 y5 y6 y7 y8 y9 y10) (laws_FnExactChangedBoxes.j0 (k + 1) y0 y1 y2 y3 y4 y5 y6 y7 y8 y9 y10))
  | 0 => fun _ _ _ _ _ _ _ _ _ _ _ r h => by simp [laws_FnExactChangedBoxes.j0] at h
  | k + 1 => by
    have ih0 := laws_FnExactChangedBoxes.mono_l k
    · intro y0 y1 y2 y3 y4 y5 y6 y7 y8 y9 y10
      unfold laws_FnExactChangedBoxes.j0
      repeat' first
      | (with_reducible exact ih0 _ _ _ _ _ _ _ _ _ _ _)
      | (with_reducible exact laws_eqBoxS.mono _ _ _)
      | (with_reducible exact laws_eqImage.mono _ _ _ _ _ _ _ _ _)
      | (with_reducible exact laws_heldBoxS.mono _ _ _)
      | (with_reducible exact laws_markBoxS.mono _ _ _)
      | (with_reducible exact laws_markImage.mono _ _ _ _ _ _)
      | (with_reducible exact laws_toImage.mono _ _ _ _ _)
      | (with_reducible exact spec_ChangedBoxes.mono _ _ _ _ _ _ _ _ _)
      | (with_reducible exact LeO.refl _)
      | (with_reducible exact LeO.none _)
      | (with_reducible refine LeO.ite ?_ ?_)
      | (with_reducible refine LeO.bind ?_ (fun _ => ?_))
      | exact ih0 _ _ _ _ _ _ _ _ _ _ _
      | exact laws_eqBoxS.mono _ _ _
      | exact laws_eqImage.mono _ _ _ _ _ _ _ _ _
      | exact laws_heldBoxS.mono _ _ _
      | exact laws_markBoxS.mono _ _ _
      | exact laws_markImage.mono _ _ _ _ _ _
      | exact laws_toImage.mono _ _ _ _ _
      | exact spec_ChangedBoxes.mono _ _ _ _ _ _ _ _ _
      | exact LeO.none _
      | refine LeO.ite ?_ ?_
      | refine LeO.bind ?_ (fun _ => ?_)
theorem laws_FnExactChangedBoxes.mono : ∀ a0 a1 a2 a3 a4 a5 a6 a7 k, LeO (laws_FnExactChangedBoxes.f k a0 a1 a2 a3 a4 a5 a6 a7) (laws_FnExactChangedBoxes.f (k + 1) a0 a1 a2 a3 a4 a5 a6 a7) := by
  intro a0 a1 a2 a3 a4 a5 a6 a7 k
  have ih0 := laws_FnExactChangedBoxes.mono_l k
  unfold laws_FnExactChangedBoxes.f
  repeat' first
      | (with_reducible exact ih0 _ _ _ _ _ _ _ _ _ _ _)
      | (with_reducible exact laws_eqBoxS.mono _ _ _)
      | (with_reducible exact laws_eqImage.mono _ _ _ _ _ _ _ _ _)
      | (with_reducible exact laws_heldBoxS.mono _ _ _)
      | (with_reducible exact laws_markBoxS.mono _ _ _)
      | (with_reducible exact laws_markImage.mono _ _ _ _ _ _)
      | (with_reducible exact laws_toImage.mono _ _ _ _ _)
      | (with_reducible exact spec_ChangedBoxes.mono _ _ _ _ _ _ _ _ _)
      | (with_reducible exact LeO.refl _)
      | (with_reducible exact LeO.none _)
      | (with_reducible refine LeO.ite ?_ ?_)
      | (with_reducible refine LeO.bind ?_ (fun _ => ?_))
      | exact ih0 _ _ _ _ _ _ _ _ _ _ _
      | exact laws_eqBoxS.mono _ _ _
      | exact laws_eqImage.mono _ _ _ _ _ _ _ _ _
      | exact laws_heldBoxS.mono _ _ _
      | exact laws_markBoxS.mono _ _ _
      | exact laws_markImage.mono _ _ _ _ _ _
      | exact laws_toImage.mono _ _ _ _ _
      | exact spec_ChangedBoxes.mono _ _ _ _ _ _ _ _ _
      | exact LeO.none _
      | refine LeO.ite ?_ ?_
      | refine LeO.bind ?_ (fun _ => ?_)
set_option maxHeartbeats 8000000 in
set_option maxRecDepth 100000 in
theorem laws_FnExactChangedBoxes.calls (k : Nat) (a0_0 : Int) (a0_1 : Int) (a0_2 : Int) (A0_3 : Option Addr) (c0_3 : Nat) (l0_3 : List Int) (a1_0 : Int) (a1_1 : Int) (a1_2 : Int) (A1_3 : Option Addr) (c1_3 : Nat) (l1_3 : List Int) (r : Bool) (w : World) (hr0_3 : Kd.C (Kd.int .i64) w A0_3 l0_3.length l0_3) (hc0_3 : l0_3.length ≤ c0_3) (hr1_3 : Kd.C (Kd.int .i64) w A1_3 l1_3.length l1_3) (hc1_3 : l1_3.length ≤ c1_3) (h : laws_FnExactChangedBoxes.f k a0_0 a0_1 a0_2 l0_3 a1_0 a1_1 a1_2 l1_3 = some r) (hrt : r = true) :
    Calls Try.prog 8 #[.agg #[.int .i64 a0_0, .int .i64 a0_1, .int .i64 a0_2, .slice A0_3 l0_3.length c0_3], .agg #[.int .i64 a1_0, .int .i64 a1_1, .int .i64 a1_2, .slice A1_3 l1_3.length c1_3]] w fun e w' => e = .returned (.bool r) ∧ Below w.heap.size w w' := by
  have HRT := Aside0.mk hrt
  clear hrt
  have hu24 := Try.underlying24
  have hu28 := Try.underlying28
  have HR0_3 := Aside0.mk hr0_3
  have HC0_3 := Aside0.mk hc0_3
  clear hr0_3 hc0_3
  have HR1_3 := Aside0.mk hr1_3
  have HC1_3 := Aside0.mk hc1_3
  clear hr1_3 hc1_3
  have HB := Aside0.mk (Below.refl w.heap.size w)
  have H : ((laws_szImage.f a0_0 a0_1 a0_2 l0_3 1048576).bind fun t9003 => (if t9003 < 0 then (some true) else ((laws_szImage.f a1_0 a1_1 a1_2 l1_3 t9003).bind fun t9004 => (if t9004 < 0 then (some true) else ((laws_toImage.f k a0_0 a0_1 a0_2 l0_3).bind fun bt9005 => ((laws_toImage.f k a1_0 a1_1 a1_2 l1_3).bind fun bt9011 => ((spec_ChangedBoxes.f k bt9005.1 bt9005.2.1 bt9005.2.2.1 bt9005.2.2.2 bt9011.1 bt9011.2.1 bt9011.2.2.1 bt9011.2.2.2).bind fun t9017 => ((laws_toImage.f k a0_0 a0_1 a0_2 l0_3).bind fun bt9020 => ((laws_toImage.f k a1_0 a1_1 a1_2 l1_3).bind fun bt9027 => ((impl_ChangedBoxes.f bt9020.1 bt9020.2.1 bt9020.2.2.1 bt9020.2.2.2 bt9027.1 bt9027.2.1 bt9027.2.2.1 bt9027.2.2.2).bind fun t9034 => ((laws_eqBoxS.f k t9034 t9017).bind fun t9037 => (if t9037 = true then ((laws_toImage.f k a0_0 a0_1 a0_2 l0_3).bind fun bt9038 => ((laws_eqImage.f k bt9020.1 bt9020.2.1 bt9020.2.2.1 bt9020.2.2.2 bt9038.1 bt9038.2.1 bt9038.2.2.1 bt9038.2.2.2).bind fun t9044 => (if t9044 = true then ((laws_toImage.f k a1_0 a1_1 a1_2 l1_3).bind fun bt9045 => ((laws_eqImage.f k bt9027.1 bt9027.2.1 bt9027.2.2.1 bt9027.2.2.2 bt9045.1 bt9045.2.1 bt9045.2.2.1 bt9045.2.2.2).bind fun t9051 => (if t9051 = true then ((laws_markImage.f k bt9020.1 bt9020.2.1 bt9020.2.2.1 bt9020.2.2.2 1).bind fun bt9052 => ((laws_markImage.f k bt9027.1 bt9027.2.1 bt9027.2.2.1 bt9027.2.2.2 bt9052.1).bind fun bt9054 => (if bt9054.1 < 0 then (laws_FnExactChangedBoxes.j0 k t9017 t9034 true a0_0 a0_1 a0_2 l0_3 a1_0 a1_1 a1_2 l1_3) else ((laws_eqBoxS.f k t9034 t9017).bind fun t9056 => (laws_FnExactChangedBoxes.j0 k t9017 t9034 (!t9056) a0_0 a0_1 a0_2 l0_3 a1_0 a1_1 a1_2 l1_3))))) else (some false)))) else (some false)))) else (some false))))))))))))) = some r := h
  clear h
  replace H := Option.bind_eq_some_iff.mp H
  obtain ⟨t9003, A30, H⟩ := H
  replace H : (if t9003 < 0 then (some true) else ((laws_szImage.f a1_0 a1_1 a1_2 l1_3 t9003).bind fun t9004 => (if t9004 < 0 then (some true) else ((laws_toImage.f k a0_0 a0_1 a0_2 l0_3).bind fun bt9005 => ((laws_toImage.f k a1_0 a1_1 a1_2 l1_3).bind fun bt9011 => ((spec_ChangedBoxes.f k bt9005.1 bt9005.2.1 bt9005.2.2.1 bt9005.2.2.2 bt9011.1 bt9011.2.1 bt9011.2.2.1 bt9011.2.2.2).bind fun t9017 => ((laws_toImage.f k a0_0 a0_1 a0_2 l0_3).bind fun bt9020 => ((laws_toImage.f k a1_0 a1_1 a1_2 l1_3).bind fun bt9027 => ((impl_ChangedBoxes.f bt9020.1 bt9020.2.1 bt9020.2.2.1 bt9020.2.2.2 bt9027.1 bt9027.2.1 bt9027.2.2.1 bt9027.2.2.2).bind fun t9034 => ((laws_eqBoxS.f k t9034 t9017).bind fun t9037 => (if t9037 = true then ((laws_toImage.f k a0_0 a0_1 a0_2 l0_3).bind fun bt9038 => ((laws_eqImage.f k bt9020.1 bt9020.2.1 bt9020.2.2.1 bt9020.2.2.2 bt9038.1 bt9038.2.1 bt9038.2.2.1 bt9038.2.2.2).bind fun t9044 => (if t9044 = true then ((laws_toImage.f k a1_0 a1_1 a1_2 l1_3).bind fun bt9045 => ((laws_eqImage.f k bt9027.1 bt9027.2.1 bt9027.2.2.1 bt9027.2.2.2 bt9045.1 bt9045.2.1 bt9045.2.2.1 bt9045.2.2.2).bind fun t9051 => (if t9051 = true then ((laws_markImage.f k bt9020.1 bt9020.2.1 bt9020.2.2.1 bt9020.2.2.2 1).bind fun bt9052 => ((laws_markImage.f k bt9027.1 bt9027.2.1 bt9027.2.2.1 bt9027.2.2.2 bt9052.1).bind fun bt9054 => (if bt9054.1 < 0 then (laws_FnExactChangedBoxes.j0 k t9017 t9034 true a0_0 a0_1 a0_2 l0_3 a1_0 a1_1 a1_2 l1_3) else ((laws_eqBoxS.f k t9034 t9017).bind fun t9056 => (laws_FnExactChangedBoxes.j0 k t9017 t9034 (!t9056) a0_0 a0_1 a0_2 l0_3 a1_0 a1_1 a1_2 l1_3))))) else (some false)))) else (some false)))) else (some false)))))))))))) = some r := H
  have A3 := Aside0.mk A30
  clear A30
  by_cases c4 : t9003 < 0
  · rw [if_pos c4] at H
    have c4b0 : decide (t9003 < 0) = true := decide_eq_true c4
    clear c4
    obtain rfl := Option.some.inj H
    go_enter Try.func8, Try.ntmps8
    go_wp2_with (first | ((with_reducible refine gate_dst (N := 2) rfl ?_); refine box_event ?hg (N := 2) ?hd (cs := #[.int .i64 a0_0, .int .i64 a0_1, .int .i64 a0_2, .slice A0_3 l0_3.length c0_3]) (t := 24) ?hr ?_; (case hd => rfl); (case hg => rfl); (case hr => first | (go_simp; done) | (go_simp; rfl)); intro gb9001 hg w5 hbox hb; have n0_ := Aside0.mk (below_step (by repeat (first | (with_reducible first | exact HB.out | apply below_alloc | apply pw_below_drewN | apply below_drew1) | exact HB.out)) hb); have n1_ := Aside0.mk (hbox); have n2_ := Aside0.mk ((by rw [hg]; exact (below_size (by repeat (first | (with_reducible first | exact HB.out | apply below_alloc | apply pw_below_drewN | apply below_drew1) | exact HB.out))) : w.heap.size ≤ gb9001)); have n3_ := Aside0.mk ((by rw [hg]; exact (below_size (by repeat (first | (with_reducible first | exact HB.out | apply below_alloc | apply pw_below_drewN | apply below_drew1) | exact HB.out))) : w.heap.size ≤ gb9001)); clear HB; have HB := n0_; have BK9001 := n1_; have GW9001 := n2_; have GE9001 := n3_; clear n0_ n1_ n2_ n3_; clear hb hbox hg) | ((with_reducible refine gate_dst (N := 3) rfl ?_); refine box_event ?hg (N := 3) ?hd (cs := #[.int .i64 a1_0, .int .i64 a1_1, .int .i64 a1_2, .slice A1_3 l1_3.length c1_3]) (t := 24) ?hr ?_; (case hd => rfl); (case hg => rfl); (case hr => first | (go_simp; done) | (go_simp; rfl)); intro gb9002 hg w6 hbox hb; have n0_ := Aside0.mk (blk_below (g := gb9001) (o := .cells #[.int .i64 a0_0, .int .i64 a0_1, .int .i64 a0_2, .slice A0_3 l0_3.length c0_3] 24 (0, 0)) (by (with_reducible repeat (first | refine blk_drewN ?_ _ | refine blk_drew ?_ | refine blk_alloc ?_ _)); exact BK9001.out) hb); have n1_ := Aside0.mk (below_step (by repeat (first | (with_reducible first | exact HB.out | apply below_alloc | apply pw_below_drewN | apply below_drew1 | refine below_set ?_ GE9001.out) | exact HB.out)) hb); have n2_ := Aside0.mk (hbox); have n3_ := Aside0.mk ((by rw [hg]; exact (below_size (by repeat (first | (with_reducible first | exact HB.out | apply below_alloc | apply pw_below_drewN | apply below_drew1 | refine below_set ?_ GE9001.out) | exact HB.out))) : w.heap.size ≤ gb9002)); have n4_ := Aside0.mk ((by rw [hg]; exact (below_size (by repeat (first | (with_reducible first | exact HB.out | apply below_alloc | apply pw_below_drewN | apply below_drew1 | refine below_set ?_ GE9001.out) | exact HB.out))) : w.heap.size ≤ gb9002)); have n5_ := Aside0.mk ((by rw [hg]; exact Nat.ne_of_lt (blk_lt (g := gb9001) (o := .cells #[.int .i64 a0_0, .int .i64 a0_1, .int .i64 a0_2, .slice A0_3 l0_3.length c0_3] 24 (0, 0)) (by (with_reducible repeat (first | refine blk_drewN ?_ _ | refine blk_drew ?_ | refine blk_alloc ?_ _)); exact BK9001.out)) : gb9001 ≠ gb9002)); have n6_ := Aside0.mk ((by rw [hg]; exact Nat.ne_of_gt (blk_lt (g := gb9001) (o := .cells #[.int .i64 a0_0, .int .i64 a0_1, .int .i64 a0_2, .slice A0_3 l0_3.length c0_3] 24 (0, 0)) (by (with_reducible repeat (first | refine blk_drewN ?_ _ | refine blk_drew ?_ | refine blk_alloc ?_ _)); exact BK9001.out)) : gb9002 ≠ gb9001)); clear BK9001; clear HB; have BK9001 := n0_; have HB := n1_; have BK9002 := n2_; have GW9002 := n3_; have GE9002 := n4_; have NB9001_9002 := n5_; have NB9002_9001 := n6_; clear n0_ n1_ n2_ n3_ n4_ n5_ n6_; clear hb hbox hg; have hnb7 := NB9001_9002.out; have hnc7 := NB9002_9001.out; have hcz8_0 : w6.cell? ⟨gb9001, 0, none⟩ = some (.int .i64 a0_0) := (blk_cell BK9001.out 0).trans rfl; have hcz8_1 : w6.cell? ⟨gb9001, 1, none⟩ = some (.int .i64 a0_1) := (blk_cell BK9001.out 1).trans rfl; have hcz8_2 : w6.cell? ⟨gb9001, 2, none⟩ = some (.int .i64 a0_2) := (blk_cell BK9001.out 2).trans rfl; have hcz8_3 : w6.cell? ⟨gb9001, 3, none⟩ = some (.slice A0_3 l0_3.length c0_3) := (blk_cell BK9001.out 3).trans rfl; have hfz8_0 := blk_frozen BK9001.out 0; have hfz8_1 := blk_frozen BK9001.out 1; have hfz8_2 := blk_frozen BK9001.out 2; have hfz8_3 := blk_frozen BK9001.out 3) | ((with_reducible refine gate_callee (f := 11) rfl ?_); refine goesL_ (some 16) rfl rfl Try.func11 (by kernel_rfl) rfl #[.agg #[.int .i64 a0_0, .int .i64 a0_1, .int .i64 a0_2, .slice A0_3 l0_3.length c0_3], .int .i64 1048576] rfl (by (try simp only [List.map_toArray, List.map_cons, List.map_nil]); first | done | rfl | (simp only [List.length_drop, List.length_take]; rfl)) ?_; (with_reducible refine (laws_szImage.calls a0_0 a0_1 a0_2 _ _ l0_3 1048576 t9003 _ ?side1 ?side2 A3.out).mono ?_); (case side1 => repeat (first | exact (Kd.C_below HR0_3.out HB.out) | (with_reducible refine Kd.C_alloc ?_ _) | (with_reducible refine Kd.C_drewN ?_ _) | (with_reducible refine Kd.C_drew ?_))); (case side2 => exact HC0_3.out); rintro e w9 ⟨rfl, hb⟩; refine ⟨_, rfl, ?_⟩; have n0_ := Aside0.mk (blk_below (g := gb9001) (o := .cells #[.int .i64 a0_0, .int .i64 a0_1, .int .i64 a0_2, .slice A0_3 l0_3.length c0_3] 24 (0, 0)) (by (with_reducible repeat (first | refine blk_drewN ?_ _ | refine blk_drew ?_ | refine blk_alloc ?_ _)); exact BK9001.out) hb); have n1_ := Aside0.mk (blk_below (g := gb9002) (o := .cells #[.int .i64 a1_0, .int .i64 a1_1, .int .i64 a1_2, .slice A1_3 l1_3.length c1_3] 24 (0, 0)) (by (with_reducible repeat (first | refine blk_drewN ?_ _ | refine blk_drew ?_ | refine blk_alloc ?_ _)); exact BK9002.out) hb); have n2_ := Aside0.mk (below_step (by repeat (first | (with_reducible first | exact HB.out | apply below_alloc | apply pw_below_drewN | apply below_drew1 | refine below_set ?_ GE9001.out | refine below_set ?_ GE9002.out) | exact HB.out)) hb); clear BK9001; clear BK9002; clear HB; have BK9001 := n0_; have BK9002 := n1_; have HB := n2_; clear n0_ n1_ n2_; (try clear hb); (try clear hb2); (try clear hk); (try clear hi)))
    go_ret
    exact ⟨by first | rfl | (simp [errW_none, errW_some] <;> rfl) | (simp [*, errW_none, errW_some] <;> rfl), by repeat (first | (with_reducible first | exact HB.out | apply below_alloc | apply pw_below_drewN | apply below_drew1 | refine below_set ?_ GE9001.out | refine below_set ?_ GE9002.out) | exact HB.out)⟩
  · rw [if_neg c4] at H
    have c4b0 : decide (t9003 < 0) = false := decide_eq_false c4
    clear c4
    replace H := Option.bind_eq_some_iff.mp H
    obtain ⟨t9004, A100, H⟩ := H
    replace H : (if t9004 < 0 then (some true) else ((laws_toImage.f k a0_0 a0_1 a0_2 l0_3).bind fun bt9005 => ((laws_toImage.f k a1_0 a1_1 a1_2 l1_3).bind fun bt9011 => ((spec_ChangedBoxes.f k bt9005.1 bt9005.2.1 bt9005.2.2.1 bt9005.2.2.2 bt9011.1 bt9011.2.1 bt9011.2.2.1 bt9011.2.2.2).bind fun t9017 => ((laws_toImage.f k a0_0 a0_1 a0_2 l0_3).bind fun bt9020 => ((laws_toImage.f k a1_0 a1_1 a1_2 l1_3).bind fun bt9027 => ((impl_ChangedBoxes.f bt9020.1 bt9020.2.1 bt9020.2.2.1 bt9020.2.2.2 bt9027.1 bt9027.2.1 bt9027.2.2.1 bt9027.2.2.2).bind fun t9034 => ((laws_eqBoxS.f k t9034 t9017).bind fun t9037 => (if t9037 = true then ((laws_toImage.f k a0_0 a0_1 a0_2 l0_3).bind fun bt9038 => ((laws_eqImage.f k bt9020.1 bt9020.2.1 bt9020.2.2.1 bt9020.2.2.2 bt9038.1 bt9038.2.1 bt9038.2.2.1 bt9038.2.2.2).bind fun t9044 => (if t9044 = true then ((laws_toImage.f k a1_0 a1_1 a1_2 l1_3).bind fun bt9045 => ((laws_eqImage.f k bt9027.1 bt9027.2.1 bt9027.2.2.1 bt9027.2.2.2 bt9045.1 bt9045.2.1 bt9045.2.2.1 bt9045.2.2.2).bind fun t9051 => (if t9051 = true then ((laws_markImage.f k bt9020.1 bt9020.2.1 bt9020.2.2.1 bt9020.2.2.2 1).bind fun bt9052 => ((laws_markImage.f k bt9027.1 bt9027.2.1 bt9027.2.2.1 bt9027.2.2.2 bt9052.1).bind fun bt9054 => (if bt9054.1 < 0 then (laws_FnExactChangedBoxes.j0 k t9017 t9034 true a0_0 a0_1 a0_2 l0_3 a1_0 a1_1 a1_2 l1_3) else ((laws_eqBoxS.f k t9034 t9017).bind fun t9056 => (laws_FnExactChangedBoxes.j0 k t9017 t9034 (!t9056) a0_0 a0_1 a0_2 l0_3 a1_0 a1_1 a1_2 l1_3))))) else (some false)))) else (some false)))) else (some false)))))))))) = some r := H
    have A10 := Aside0.mk A100
    clear A100
    by_cases c11 : t9004 < 0
    · rw [if_pos c11] at H
      have c11b0 : decide (t9004 < 0) = true := decide_eq_true c11
      clear c11
      obtain rfl := Option.some.inj H
      go_enter Try.func8, Try.ntmps8
      go_wp2_with (first | ((with_reducible refine gate_dst (N := 2) rfl ?_); refine box_event ?hg (N := 2) ?hd (cs := #[.int .i64 a0_0, .int .i64 a0_1, .int .i64 a0_2, .slice A0_3 l0_3.length c0_3]) (t := 24) ?hr ?_; (case hd => rfl); (case hg => rfl); (case hr => first | (go_simp; done) | (go_simp; rfl)); intro gb9001 hg w12 hbox hb; have n0_ := Aside0.mk (below_step (by repeat (first | (with_reducible first | exact HB.out | apply below_alloc | apply pw_below_drewN | apply below_drew1) | exact HB.out)) hb); have n1_ := Aside0.mk (hbox); have n2_ := Aside0.mk ((by rw [hg]; exact (below_size (by repeat (first | (with_reducible first | exact HB.out | apply below_alloc | apply pw_below_drewN | apply below_drew1) | exact HB.out))) : w.heap.size ≤ gb9001)); have n3_ := Aside0.mk ((by rw [hg]; exact (below_size (by repeat (first | (with_reducible first | exact HB.out | apply below_alloc | apply pw_below_drewN | apply below_drew1) | exact HB.out))) : w.heap.size ≤ gb9001)); clear HB; have HB := n0_; have BK9001 := n1_; have GW9001 := n2_; have GE9001 := n3_; clear n0_ n1_ n2_ n3_; clear hb hbox hg) | ((with_reducible refine gate_dst (N := 3) rfl ?_); refine box_event ?hg (N := 3) ?hd (cs := #[.int .i64 a1_0, .int .i64 a1_1, .int .i64 a1_2, .slice A1_3 l1_3.length c1_3]) (t := 24) ?hr ?_; (case hd => rfl); (case hg => rfl); (case hr => first | (go_simp; done) | (go_simp; rfl)); intro gb9002 hg w13 hbox hb; have n0_ := Aside0.mk (blk_below (g := gb9001) (o := .cells #[.int .i64 a0_0, .int .i64 a0_1, .int .i64 a0_2, .slice A0_3 l0_3.length c0_3] 24 (0, 0)) (by (with_reducible repeat (first | refine blk_drewN ?_ _ | refine blk_drew ?_ | refine blk_alloc ?_ _)); exact BK9001.out) hb); have n1_ := Aside0.mk (below_step (by repeat (first | (with_reducible first | exact HB.out | apply below_alloc | apply pw_below_drewN | apply below_drew1 | refine below_set ?_ GE9001.out) | exact HB.out)) hb); have n2_ := Aside0.mk (hbox); have n3_ := Aside0.mk ((by rw [hg]; exact (below_size (by repeat (first | (with_reducible first | exact HB.out | apply below_alloc | apply pw_below_drewN | apply below_drew1 | refine below_set ?_ GE9001.out) | exact HB.out))) : w.heap.size ≤ gb9002)); have n4_ := Aside0.mk ((by rw [hg]; exact (below_size (by repeat (first | (with_reducible first | exact HB.out | apply below_alloc | apply pw_below_drewN | apply below_drew1 | refine below_set ?_ GE9001.out) | exact HB.out))) : w.heap.size ≤ gb9002)); have n5_ := Aside0.mk ((by rw [hg]; exact Nat.ne_of_lt (blk_lt (g := gb9001) (o := .cells #[.int .i64 a0_0, .int .i64 a0_1, .int .i64 a0_2, .slice A0_3 l0_3.length c0_3] 24 (0, 0)) (by (with_reducible repeat (first | refine blk_drewN ?_ _ | refine blk_drew ?_ | refine blk_alloc ?_ _)); exact BK9001.out)) : gb9001 ≠ gb9002)); have n6_ := Aside0.mk ((by rw [hg]; exact Nat.ne_of_gt (blk_lt (g := gb9001) (o := .cells #[.int .i64 a0_0, .int .i64 a0_1, .int .i64 a0_2, .slice A0_3 l0_3.length c0_3] 24 (0, 0)) (by (with_reducible repeat (first | refine blk_drewN ?_ _ | refine blk_drew ?_ | refine blk_alloc ?_ _)); exact BK9001.out)) : gb9002 ≠ gb9001)); clear BK9001; clear HB; have BK9001 := n0_; have HB := n1_; have BK9002 := n2_; have GW9002 := n3_; have GE9002 := n4_; have NB9001_9002 := n5_; have NB9002_9001 := n6_; clear n0_ n1_ n2_ n3_ n4_ n5_ n6_; clear hb hbox hg; have hnb14 := NB9001_9002.out; have hnc14 := NB9002_9001.out; have hcz15_0 : w13.cell? ⟨gb9001, 0, none⟩ = some (.int .i64 a0_0) := (blk_cell BK9001.out 0).trans rfl; have hcz15_1 : w13.cell? ⟨gb9001, 1, none⟩ = some (.int .i64 a0_1) := (blk_cell BK9001.out 1).trans rfl; have hcz15_2 : w13.cell? ⟨gb9001, 2, none⟩ = some (.int .i64 a0_2) := (blk_cell BK9001.out 2).trans rfl; have hcz15_3 : w13.cell? ⟨gb9001, 3, none⟩ = some (.slice A0_3 l0_3.length c0_3) := (blk_cell BK9001.out 3).trans rfl; have hfz15_0 := blk_frozen BK9001.out 0; have hfz15_1 := blk_frozen BK9001.out 1; have hfz15_2 := blk_frozen BK9001.out 2; have hfz15_3 := blk_frozen BK9001.out 3) | ((with_reducible refine gate_callee (f := 11) rfl ?_); refine goesL_ (some 16) rfl rfl Try.func11 (by kernel_rfl) rfl #[.agg #[.int .i64 a0_0, .int .i64 a0_1, .int .i64 a0_2, .slice A0_3 l0_3.length c0_3], .int .i64 1048576] rfl (by (try simp only [List.map_toArray, List.map_cons, List.map_nil]); first | done | rfl | (simp only [List.length_drop, List.length_take]; rfl)) ?_; (with_reducible refine (laws_szImage.calls a0_0 a0_1 a0_2 _ _ l0_3 1048576 t9003 _ ?side1 ?side2 A3.out).mono ?_); (case side1 => repeat (first | exact (Kd.C_below HR0_3.out HB.out) | (with_reducible refine Kd.C_alloc ?_ _) | (with_reducible refine Kd.C_drewN ?_ _) | (with_reducible refine Kd.C_drew ?_))); (case side2 => exact HC0_3.out); rintro e w16 ⟨rfl, hb⟩; refine ⟨_, rfl, ?_⟩; have n0_ := Aside0.mk (blk_below (g := gb9001) (o := .cells #[.int .i64 a0_0, .int .i64 a0_1, .int .i64 a0_2, .slice A0_3 l0_3.length c0_3] 24 (0, 0)) (by (with_reducible repeat (first | refine blk_drewN ?_ _ | refine blk_drew ?_ | refine blk_alloc ?_ _)); exact BK9001.out) hb); have n1_ := Aside0.mk (blk_below (g := gb9002) (o := .cells #[.int .i64 a1_0, .int .i64 a1_1, .int .i64 a1_2, .slice A1_3 l1_3.length c1_3] 24 (0, 0)) (by (with_reducible repeat (first | refine blk_drewN ?_ _ | refine blk_drew ?_ | refine blk_alloc ?_ _)); exact BK9002.out) hb); have n2_ := Aside0.mk (below_step (by repeat (first | (with_reducible first | exact HB.out | apply below_alloc | apply pw_below_drewN | apply below_drew1 | refine below_set ?_ GE9001.out | refine below_set ?_ GE9002.out) | exact HB.out)) hb); clear BK9001; clear BK9002; clear HB; have BK9001 := n0_; have BK9002 := n1_; have HB := n2_; clear n0_ n1_ n2_; (try clear hb); (try clear hb2); (try clear hk); (try clear hi); have hcz17_0 : w16.cell? ⟨gb9002, 0, none⟩ = some (.int .i64 a1_0) := (blk_cell BK9002.out 0).trans rfl; have hcz17_1 : w16.cell? ⟨gb9002, 1, none⟩ = some (.int .i64 a1_1) := (blk_cell BK9002.out 1).trans rfl; have hcz17_2 : w16.cell? ⟨gb9002, 2, none⟩ = some (.int .i64 a1_2) := (blk_cell BK9002.out 2).trans rfl; have hcz17_3 : w16.cell? ⟨gb9002, 3, none⟩ = some (.slice A1_3 l1_3.length c1_3) := (blk_cell BK9002.out 3).trans rfl; have hfz17_0 := blk_frozen BK9002.out 0; have hfz17_1 := blk_frozen BK9002.out 1; have hfz17_2 := blk_frozen BK9002.out 2; have hfz17_3 := blk_frozen BK9002.out 3) | ((with_reducible refine gate_callee (f := 11) rfl ?_); refine goesL_ (some 21) rfl rfl Try.func11 (by kernel_rfl) rfl #[.agg #[.int .i64 a1_0, .int .i64 a1_1, .int .i64 a1_2, .slice A1_3 l1_3.length c1_3], .int .i64 t9003] rfl (by (try simp only [List.map_toArray, List.map_cons, List.map_nil]); first | done | rfl | (simp only [List.length_drop, List.length_take]; rfl)) ?_; (with_reducible refine (laws_szImage.calls a1_0 a1_1 a1_2 _ _ l1_3 t9003 t9004 _ ?side1 ?side2 A10.out).mono ?_); (case side1 => repeat (first | exact (Kd.C_below HR1_3.out HB.out) | (with_reducible refine Kd.C_alloc ?_ _) | (with_reducible refine Kd.C_drewN ?_ _) | (with_reducible refine Kd.C_drew ?_))); (case side2 => exact HC1_3.out); rintro e w18 ⟨rfl, hb⟩; refine ⟨_, rfl, ?_⟩; have n0_ := Aside0.mk (blk_below (g := gb9001) (o := .cells #[.int .i64 a0_0, .int .i64 a0_1, .int .i64 a0_2, .slice A0_3 l0_3.length c0_3] 24 (0, 0)) (by (with_reducible repeat (first | refine blk_drewN ?_ _ | refine blk_drew ?_ | refine blk_alloc ?_ _)); exact BK9001.out) hb); have n1_ := Aside0.mk (blk_below (g := gb9002) (o := .cells #[.int .i64 a1_0, .int .i64 a1_1, .int .i64 a1_2, .slice A1_3 l1_3.length c1_3] 24 (0, 0)) (by (with_reducible repeat (first | refine blk_drewN ?_ _ | refine blk_drew ?_ | refine blk_alloc ?_ _)); exact BK9002.out) hb); have n2_ := Aside0.mk (below_step (by repeat (first | (with_reducible first | exact HB.out | apply below_alloc | apply pw_below_drewN | apply below_drew1 | refine below_set ?_ GE9001.out | refine below_set ?_ GE9002.out) | exact HB.out)) hb); clear BK9001; clear BK9002; clear HB; have BK9001 := n0_; have BK9002 := n1_; have HB := n2_; clear n0_ n1_ n2_; (try clear hb); (try clear hb2); (try clear hk); (try clear hi)))
      go_ret
      exact ⟨by first | rfl | (simp [errW_none, errW_some] <;> rfl) | (simp [*, errW_none, errW_some] <;> rfl), by repeat (first | (with_reducible first | exact HB.out | apply below_alloc | apply pw_below_drewN | apply below_drew1 | refine below_set ?_ GE9001.out | refine below_set ?_ GE9002.out) | exact HB.out)⟩
    · rw [if_neg c11] at H
      have c11b0 : decide (t9004 < 0) = false := decide_eq_false c11
      clear c11
      replace H := Option.bind_eq_some_iff.mp H
      obtain ⟨⟨t9005, t9006, t9007, t9008⟩, A190, H⟩ := H
      replace H : ((laws_toImage.f k a1_0 a1_1 a1_2 l1_3).bind fun bt9011 => ((spec_ChangedBoxes.f k t9005 t9006 t9007 t9008 bt9011.1 bt9011.2.1 bt9011.2.2.1 bt9011.2.2.2).bind fun t9017 => ((laws_toImage.f k a0_0 a0_1 a0_2 l0_3).bind fun bt9020 => ((laws_toImage.f k a1_0 a1_1 a1_2 l1_3).bind fun bt9027 => ((impl_ChangedBoxes.f bt9020.1 bt9020.2.1 bt9020.2.2.1 bt9020.2.2.2 bt9027.1 bt9027.2.1 bt9027.2.2.1 bt9027.2.2.2).bind fun t9034 => ((laws_eqBoxS.f k t9034 t9017).bind fun t9037 => (if t9037 = true then ((laws_toImage.f k a0_0 a0_1 a0_2 l0_3).bind fun bt9038 => ((laws_eqImage.f k bt9020.1 bt9020.2.1 bt9020.2.2.1 bt9020.2.2.2 bt9038.1 bt9038.2.1 bt9038.2.2.1 bt9038.2.2.2).bind fun t9044 => (if t9044 = true then ((laws_toImage.f k a1_0 a1_1 a1_2 l1_3).bind fun bt9045 => ((laws_eqImage.f k bt9027.1 bt9027.2.1 bt9027.2.2.1 bt9027.2.2.2 bt9045.1 bt9045.2.1 bt9045.2.2.1 bt9045.2.2.2).bind fun t9051 => (if t9051 = true then ((laws_markImage.f k bt9020.1 bt9020.2.1 bt9020.2.2.1 bt9020.2.2.2 1).bind fun bt9052 => ((laws_markImage.f k bt9027.1 bt9027.2.1 bt9027.2.2.1 bt9027.2.2.2 bt9052.1).bind fun bt9054 => (if bt9054.1 < 0 then (laws_FnExactChangedBoxes.j0 k t9017 t9034 true a0_0 a0_1 a0_2 l0_3 a1_0 a1_1 a1_2 l1_3) else ((laws_eqBoxS.f k t9034 t9017).bind fun t9056 => (laws_FnExactChangedBoxes.j0 k t9017 t9034 (!t9056) a0_0 a0_1 a0_2 l0_3 a1_0 a1_1 a1_2 l1_3))))) else (some false)))) else (some false)))) else (some false)))))))) = some r := H
      have A19 := Aside0.mk A190
      clear A190
      replace H := Option.bind_eq_some_iff.mp H
      obtain ⟨⟨t9011, t9012, t9013, t9014⟩, A200, H⟩ := H
      replace H : ((spec_ChangedBoxes.f k t9005 t9006 t9007 t9008 t9011 t9012 t9013 t9014).bind fun t9017 => ((laws_toImage.f k a0_0 a0_1 a0_2 l0_3).bind fun bt9020 => ((laws_toImage.f k a1_0 a1_1 a1_2 l1_3).bind fun bt9027 => ((impl_ChangedBoxes.f bt9020.1 bt9020.2.1 bt9020.2.2.1 bt9020.2.2.2 bt9027.1 bt9027.2.1 bt9027.2.2.1 bt9027.2.2.2).bind fun t9034 => ((laws_eqBoxS.f k t9034 t9017).bind fun t9037 => (if t9037 = true then ((laws_toImage.f k a0_0 a0_1 a0_2 l0_3).bind fun bt9038 => ((laws_eqImage.f k bt9020.1 bt9020.2.1 bt9020.2.2.1 bt9020.2.2.2 bt9038.1 bt9038.2.1 bt9038.2.2.1 bt9038.2.2.2).bind fun t9044 => (if t9044 = true then ((laws_toImage.f k a1_0 a1_1 a1_2 l1_3).bind fun bt9045 => ((laws_eqImage.f k bt9027.1 bt9027.2.1 bt9027.2.2.1 bt9027.2.2.2 bt9045.1 bt9045.2.1 bt9045.2.2.1 bt9045.2.2.2).bind fun t9051 => (if t9051 = true then ((laws_markImage.f k bt9020.1 bt9020.2.1 bt9020.2.2.1 bt9020.2.2.2 1).bind fun bt9052 => ((laws_markImage.f k bt9027.1 bt9027.2.1 bt9027.2.2.1 bt9027.2.2.2 bt9052.1).bind fun bt9054 => (if bt9054.1 < 0 then (laws_FnExactChangedBoxes.j0 k t9017 t9034 true a0_0 a0_1 a0_2 l0_3 a1_0 a1_1 a1_2 l1_3) else ((laws_eqBoxS.f k t9034 t9017).bind fun t9056 => (laws_FnExactChangedBoxes.j0 k t9017 t9034 (!t9056) a0_0 a0_1 a0_2 l0_3 a1_0 a1_1 a1_2 l1_3))))) else (some false)))) else (some false)))) else (some false))))))) = some r := H
      have A20 := Aside0.mk A200
      clear A200
      replace H := Option.bind_eq_some_iff.mp H
      obtain ⟨t9017, A210, H⟩ := H
      replace H : ((laws_toImage.f k a0_0 a0_1 a0_2 l0_3).bind fun bt9020 => ((laws_toImage.f k a1_0 a1_1 a1_2 l1_3).bind fun bt9027 => ((impl_ChangedBoxes.f bt9020.1 bt9020.2.1 bt9020.2.2.1 bt9020.2.2.2 bt9027.1 bt9027.2.1 bt9027.2.2.1 bt9027.2.2.2).bind fun t9034 => ((laws_eqBoxS.f k t9034 t9017).bind fun t9037 => (if t9037 = true then ((laws_toImage.f k a0_0 a0_1 a0_2 l0_3).bind fun bt9038 => ((laws_eqImage.f k bt9020.1 bt9020.2.1 bt9020.2.2.1 bt9020.2.2.2 bt9038.1 bt9038.2.1 bt9038.2.2.1 bt9038.2.2.2).bind fun t9044 => (if t9044 = true then ((laws_toImage.f k a1_0 a1_1 a1_2 l1_3).bind fun bt9045 => ((laws_eqImage.f k bt9027.1 bt9027.2.1 bt9027.2.2.1 bt9027.2.2.2 bt9045.1 bt9045.2.1 bt9045.2.2.1 bt9045.2.2.2).bind fun t9051 => (if t9051 = true then ((laws_markImage.f k bt9020.1 bt9020.2.1 bt9020.2.2.1 bt9020.2.2.2 1).bind fun bt9052 => ((laws_markImage.f k bt9027.1 bt9027.2.1 bt9027.2.2.1 bt9027.2.2.2 bt9052.1).bind fun bt9054 => (if bt9054.1 < 0 then (laws_FnExactChangedBoxes.j0 k t9017 t9034 true a0_0 a0_1 a0_2 l0_3 a1_0 a1_1 a1_2 l1_3) else ((laws_eqBoxS.f k t9034 t9017).bind fun t9056 => (laws_FnExactChangedBoxes.j0 k t9017 t9034 (!t9056) a0_0 a0_1 a0_2 l0_3 a1_0 a1_1 a1_2 l1_3))))) else (some false)))) else (some false)))) else (some false)))))) = some r := H
      have A21 := Aside0.mk A210
      clear A210
      replace H := Option.bind_eq_some_iff.mp H
      obtain ⟨⟨t9020, t9021, t9022, t9023⟩, A220, H⟩ := H
      replace H : ((laws_toImage.f k a1_0 a1_1 a1_2 l1_3).bind fun bt9027 => ((impl_ChangedBoxes.f t9020 t9021 t9022 t9023 bt9027.1 bt9027.2.1 bt9027.2.2.1 bt9027.2.2.2).bind fun t9034 => ((laws_eqBoxS.f k t9034 t9017).bind fun t9037 => (if t9037 = true then ((laws_toImage.f k a0_0 a0_1 a0_2 l0_3).bind fun bt9038 => ((laws_eqImage.f k t9020 t9021 t9022 t9023 bt9038.1 bt9038.2.1 bt9038.2.2.1 bt9038.2.2.2).bind fun t9044 => (if t9044 = true then ((laws_toImage.f k a1_0 a1_1 a1_2 l1_3).bind fun bt9045 => ((laws_eqImage.f k bt9027.1 bt9027.2.1 bt9027.2.2.1 bt9027.2.2.2 bt9045.1 bt9045.2.1 bt9045.2.2.1 bt9045.2.2.2).bind fun t9051 => (if t9051 = true then ((laws_markImage.f k t9020 t9021 t9022 t9023 1).bind fun bt9052 => ((laws_markImage.f k bt9027.1 bt9027.2.1 bt9027.2.2.1 bt9027.2.2.2 bt9052.1).bind fun bt9054 => (if bt9054.1 < 0 then (laws_FnExactChangedBoxes.j0 k t9017 t9034 true a0_0 a0_1 a0_2 l0_3 a1_0 a1_1 a1_2 l1_3) else ((laws_eqBoxS.f k t9034 t9017).bind fun t9056 => (laws_FnExactChangedBoxes.j0 k t9017 t9034 (!t9056) a0_0 a0_1 a0_2 l0_3 a1_0 a1_1 a1_2 l1_3))))) else (some false)))) else (some false)))) else (some false))))) = some r := H
      have A22 := Aside0.mk A220
      clear A220
      replace H := Option.bind_eq_some_iff.mp H
      obtain ⟨⟨t9027, t9028, t9029, t9030⟩, A230, H⟩ := H
      replace H : ((impl_ChangedBoxes.f t9020 t9021 t9022 t9023 t9027 t9028 t9029 t9030).bind fun t9034 => ((laws_eqBoxS.f k t9034 t9017).bind fun t9037 => (if t9037 = true then ((laws_toImage.f k a0_0 a0_1 a0_2 l0_3).bind fun bt9038 => ((laws_eqImage.f k t9020 t9021 t9022 t9023 bt9038.1 bt9038.2.1 bt9038.2.2.1 bt9038.2.2.2).bind fun t9044 => (if t9044 = true then ((laws_toImage.f k a1_0 a1_1 a1_2 l1_3).bind fun bt9045 => ((laws_eqImage.f k t9027 t9028 t9029 t9030 bt9045.1 bt9045.2.1 bt9045.2.2.1 bt9045.2.2.2).bind fun t9051 => (if t9051 = true then ((laws_markImage.f k t9020 t9021 t9022 t9023 1).bind fun bt9052 => ((laws_markImage.f k t9027 t9028 t9029 t9030 bt9052.1).bind fun bt9054 => (if bt9054.1 < 0 then (laws_FnExactChangedBoxes.j0 k t9017 t9034 true a0_0 a0_1 a0_2 l0_3 a1_0 a1_1 a1_2 l1_3) else ((laws_eqBoxS.f k t9034 t9017).bind fun t9056 => (laws_FnExactChangedBoxes.j0 k t9017 t9034 (!t9056) a0_0 a0_1 a0_2 l0_3 a1_0 a1_1 a1_2 l1_3))))) else (some false)))) else (some false)))) else (some false)))) = some r := H
      have A23 := Aside0.mk A230
      clear A230
      replace H := Option.bind_eq_some_iff.mp H
      obtain ⟨t9034, A240, H⟩ := H
      replace H : ((laws_eqBoxS.f k t9034 t9017).bind fun t9037 => (if t9037 = true then ((laws_toImage.f k a0_0 a0_1 a0_2 l0_3).bind fun bt9038 => ((laws_eqImage.f k t9020 t9021 t9022 t9023 bt9038.1 bt9038.2.1 bt9038.2.2.1 bt9038.2.2.2).bind fun t9044 => (if t9044 = true then ((laws_toImage.f k a1_0 a1_1 a1_2 l1_3).bind fun bt9045 => ((laws_eqImage.f k t9027 t9028 t9029 t9030 bt9045.1 bt9045.2.1 bt9045.2.2.1 bt9045.2.2.2).bind fun t9051 => (if t9051 = true then ((laws_markImage.f k t9020 t9021 t9022 t9023 1).bind fun bt9052 => ((laws_markImage.f k t9027 t9028 t9029 t9030 bt9052.1).bind fun bt9054 => (if bt9054.1 < 0 then (laws_FnExactChangedBoxes.j0 k t9017 t9034 true a0_0 a0_1 a0_2 l0_3 a1_0 a1_1 a1_2 l1_3) else ((laws_eqBoxS.f k t9034 t9017).bind fun t9056 => (laws_FnExactChangedBoxes.j0 k t9017 t9034 (!t9056) a0_0 a0_1 a0_2 l0_3 a1_0 a1_1 a1_2 l1_3))))) else (some false)))) else (some false)))) else (some false))) = some r := H
      have A24 := Aside0.mk A240
      clear A240
      replace H := Option.bind_eq_some_iff.mp H
      obtain ⟨t9037, A250, H⟩ := H
      replace H : (if t9037 = true then ((laws_toImage.f k a0_0 a0_1 a0_2 l0_3).bind fun bt9038 => ((laws_eqImage.f k t9020 t9021 t9022 t9023 bt9038.1 bt9038.2.1 bt9038.2.2.1 bt9038.2.2.2).bind fun t9044 => (if t9044 = true then ((laws_toImage.f k a1_0 a1_1 a1_2 l1_3).bind fun bt9045 => ((laws_eqImage.f k t9027 t9028 t9029 t9030 bt9045.1 bt9045.2.1 bt9045.2.2.1 bt9045.2.2.2).bind fun t9051 => (if t9051 = true then ((laws_markImage.f k t9020 t9021 t9022 t9023 1).bind fun bt9052 => ((laws_markImage.f k t9027 t9028 t9029 t9030 bt9052.1).bind fun bt9054 => (if bt9054.1 < 0 then (laws_FnExactChangedBoxes.j0 k t9017 t9034 true a0_0 a0_1 a0_2 l0_3 a1_0 a1_1 a1_2 l1_3) else ((laws_eqBoxS.f k t9034 t9017).bind fun t9056 => (laws_FnExactChangedBoxes.j0 k t9017 t9034 (!t9056) a0_0 a0_1 a0_2 l0_3 a1_0 a1_1 a1_2 l1_3))))) else (some false)))) else (some false)))) else (some false)) = some r := H
      have A25 := Aside0.mk A250
      clear A250
      by_cases c26 : t9037 = true
      · subst c26
        have H1 : ((laws_toImage.f k a0_0 a0_1 a0_2 l0_3).bind fun bt9038 => ((laws_eqImage.f k t9020 t9021 t9022 t9023 bt9038.1 bt9038.2.1 bt9038.2.2.1 bt9038.2.2.2).bind fun t9044 => (if t9044 = true then ((laws_toImage.f k a1_0 a1_1 a1_2 l1_3).bind fun bt9045 => ((laws_eqImage.f k t9027 t9028 t9029 t9030 bt9045.1 bt9045.2.1 bt9045.2.2.1 bt9045.2.2.2).bind fun t9051 => (if t9051 = true then ((laws_markImage.f k t9020 t9021 t9022 t9023 1).bind fun bt9052 => ((laws_markImage.f k t9027 t9028 t9029 t9030 bt9052.1).bind fun bt9054 => (if bt9054.1 < 0 then (laws_FnExactChangedBoxes.j0 k t9017 t9034 true a0_0 a0_1 a0_2 l0_3 a1_0 a1_1 a1_2 l1_3) else ((laws_eqBoxS.f k t9034 t9017).bind fun t9056 => (laws_FnExactChangedBoxes.j0 k t9017 t9034 (!t9056) a0_0 a0_1 a0_2 l0_3 a1_0 a1_1 a1_2 l1_3))))) else (some false)))) else (some false)))) = some r := by rw [if_pos rfl] at H; exact H
        clear H
        have H := H1
        clear H1
        replace H := Option.bind_eq_some_iff.mp H
        obtain ⟨⟨t9038, t9039, t9040, t9041⟩, A270, H⟩ := H
        replace H : ((laws_eqImage.f k t9020 t9021 t9022 t9023 t9038 t9039 t9040 t9041).bind fun t9044 => (if t9044 = true then ((laws_toImage.f k a1_0 a1_1 a1_2 l1_3).bind fun bt9045 => ((laws_eqImage.f k t9027 t9028 t9029 t9030 bt9045.1 bt9045.2.1 bt9045.2.2.1 bt9045.2.2.2).bind fun t9051 => (if t9051 = true then ((laws_markImage.f k t9020 t9021 t9022 t9023 1).bind fun bt9052 => ((laws_markImage.f k t9027 t9028 t9029 t9030 bt9052.1).bind fun bt9054 => (if bt9054.1 < 0 then (laws_FnExactChangedBoxes.j0 k t9017 t9034 true a0_0 a0_1 a0_2 l0_3 a1_0 a1_1 a1_2 l1_3) else ((laws_eqBoxS.f k t9034 t9017).bind fun t9056 => (laws_FnExactChangedBoxes.j0 k t9017 t9034 (!t9056) a0_0 a0_1 a0_2 l0_3 a1_0 a1_1 a1_2 l1_3))))) else (some false)))) else (some false))) = some r := H
        have A27 := Aside0.mk A270
        clear A270
        replace H := Option.bind_eq_some_iff.mp H
        obtain ⟨t9044, A280, H⟩ := H
        replace H : (if t9044 = true then ((laws_toImage.f k a1_0 a1_1 a1_2 l1_3).bind fun bt9045 => ((laws_eqImage.f k t9027 t9028 t9029 t9030 bt9045.1 bt9045.2.1 bt9045.2.2.1 bt9045.2.2.2).bind fun t9051 => (if t9051 = true then ((laws_markImage.f k t9020 t9021 t9022 t9023 1).bind fun bt9052 => ((laws_markImage.f k t9027 t9028 t9029 t9030 bt9052.1).bind fun bt9054 => (if bt9054.1 < 0 then (laws_FnExactChangedBoxes.j0 k t9017 t9034 true a0_0 a0_1 a0_2 l0_3 a1_0 a1_1 a1_2 l1_3) else ((laws_eqBoxS.f k t9034 t9017).bind fun t9056 => (laws_FnExactChangedBoxes.j0 k t9017 t9034 (!t9056) a0_0 a0_1 a0_2 l0_3 a1_0 a1_1 a1_2 l1_3))))) else (some false)))) else (some false)) = some r := H
        have A28 := Aside0.mk A280
        clear A280
        by_cases c29 : t9044 = true
        · subst c29
          have H1 : ((laws_toImage.f k a1_0 a1_1 a1_2 l1_3).bind fun bt9045 => ((laws_eqImage.f k t9027 t9028 t9029 t9030 bt9045.1 bt9045.2.1 bt9045.2.2.1 bt9045.2.2.2).bind fun t9051 => (if t9051 = true then ((laws_markImage.f k t9020 t9021 t9022 t9023 1).bind fun bt9052 => ((laws_markImage.f k t9027 t9028 t9029 t9030 bt9052.1).bind fun bt9054 => (if bt9054.1 < 0 then (laws_FnExactChangedBoxes.j0 k t9017 t9034 true a0_0 a0_1 a0_2 l0_3 a1_0 a1_1 a1_2 l1_3) else ((laws_eqBoxS.f k t9034 t9017).bind fun t9056 => (laws_FnExactChangedBoxes.j0 k t9017 t9034 (!t9056) a0_0 a0_1 a0_2 l0_3 a1_0 a1_1 a1_2 l1_3))))) else (some false)))) = some r := by rw [if_pos rfl] at H; exact H
          clear H
          have H := H1
          clear H1
          replace H := Option.bind_eq_some_iff.mp H
          obtain ⟨⟨t9045, t9046, t9047, t9048⟩, A300, H⟩ := H
          replace H : ((laws_eqImage.f k t9027 t9028 t9029 t9030 t9045 t9046 t9047 t9048).bind fun t9051 => (if t9051 = true then ((laws_markImage.f k t9020 t9021 t9022 t9023 1).bind fun bt9052 => ((laws_markImage.f k t9027 t9028 t9029 t9030 bt9052.1).bind fun bt9054 => (if bt9054.1 < 0 then (laws_FnExactChangedBoxes.j0 k t9017 t9034 true a0_0 a0_1 a0_2 l0_3 a1_0 a1_1 a1_2 l1_3) else ((laws_eqBoxS.f k t9034 t9017).bind fun t9056 => (laws_FnExactChangedBoxes.j0 k t9017 t9034 (!t9056) a0_0 a0_1 a0_2 l0_3 a1_0 a1_1 a1_2 l1_3))))) else (some false))) = some r := H
          have A30 := Aside0.mk A300
          clear A300
          replace H := Option.bind_eq_some_iff.mp H
          obtain ⟨t9051, A310, H⟩ := H
          replace H : (if t9051 = true then ((laws_markImage.f k t9020 t9021 t9022 t9023 1).bind fun bt9052 => ((laws_markImage.f k t9027 t9028 t9029 t9030 bt9052.1).bind fun bt9054 => (if bt9054.1 < 0 then (laws_FnExactChangedBoxes.j0 k t9017 t9034 true a0_0 a0_1 a0_2 l0_3 a1_0 a1_1 a1_2 l1_3) else ((laws_eqBoxS.f k t9034 t9017).bind fun t9056 => (laws_FnExactChangedBoxes.j0 k t9017 t9034 (!t9056) a0_0 a0_1 a0_2 l0_3 a1_0 a1_1 a1_2 l1_3))))) else (some false)) = some r := H
          have A31 := Aside0.mk A310
          clear A310
          by_cases c32 : t9051 = true
          · subst c32
            have H1 : ((laws_markImage.f k t9020 t9021 t9022 t9023 1).bind fun bt9052 => ((laws_markImage.f k t9027 t9028 t9029 t9030 bt9052.1).bind fun bt9054 => (if bt9054.1 < 0 then (laws_FnExactChangedBoxes.j0 k t9017 t9034 true a0_0 a0_1 a0_2 l0_3 a1_0 a1_1 a1_2 l1_3) else ((laws_eqBoxS.f k t9034 t9017).bind fun t9056 => (laws_FnExactChangedBoxes.j0 k t9017 t9034 (!t9056) a0_0 a0_1 a0_2 l0_3 a1_0 a1_1 a1_2 l1_3))))) = some r := by rw [if_pos rfl] at H; exact H
            clear H
            have H := H1
            clear H1
            replace H := Option.bind_eq_some_iff.mp H
            obtain ⟨⟨t9052, t9053⟩, A330, H⟩ := H
            replace H : ((laws_markImage.f k t9027 t9028 t9029 t9030 t9052).bind fun bt9054 => (if bt9054.1 < 0 then (laws_FnExactChangedBoxes.j0 k t9017 t9034 true a0_0 a0_1 a0_2 l0_3 a1_0 a1_1 a1_2 l1_3) else ((laws_eqBoxS.f k t9034 t9017).bind fun t9056 => (laws_FnExactChangedBoxes.j0 k t9017 t9034 (!t9056) a0_0 a0_1 a0_2 l0_3 a1_0 a1_1 a1_2 l1_3)))) = some r := H
            have A33 := Aside0.mk A330
            clear A330
            replace H := Option.bind_eq_some_iff.mp H
            obtain ⟨⟨t9054, t9055⟩, A340, H⟩ := H
            replace H : (if t9054 < 0 then (laws_FnExactChangedBoxes.j0 k t9017 t9034 true a0_0 a0_1 a0_2 l0_3 a1_0 a1_1 a1_2 l1_3) else ((laws_eqBoxS.f k t9034 t9017).bind fun t9056 => (laws_FnExactChangedBoxes.j0 k t9017 t9034 (!t9056) a0_0 a0_1 a0_2 l0_3 a1_0 a1_1 a1_2 l1_3))) = some r := H
            have A34 := Aside0.mk A340
            clear A340
            have HC35 := Aside0.mk H
            clear H
            go_enter Try.func8, Try.ntmps8
            try go_wp2_with (first | ((with_reducible refine gate_dst (N := 2) rfl ?_); refine box_event ?hg (N := 2) ?hd (cs := #[.int .i64 a0_0, .int .i64 a0_1, .int .i64 a0_2, .slice A0_3 l0_3.length c0_3]) (t := 24) ?hr ?_; (case hd => rfl); (case hg => rfl); (case hr => first | (go_simp; done) | (go_simp; rfl)); intro gb9001 hg w36 hbox hb; have n0_ := Aside0.mk (below_step (by repeat (first | (with_reducible first | exact HB.out | apply below_alloc | apply pw_below_drewN | apply below_drew1) | exact HB.out)) hb); have n1_ := Aside0.mk (hbox); have n2_ := Aside0.mk ((by rw [hg]; exact (below_size (by repeat (first | (with_reducible first | exact HB.out | apply below_alloc | apply pw_below_drewN | apply below_drew1) | exact HB.out))) : w.heap.size ≤ gb9001)); have n3_ := Aside0.mk ((by rw [hg]; exact (below_size (by repeat (first | (with_reducible first | exact HB.out | apply below_alloc | apply pw_below_drewN | apply below_drew1) | exact HB.out))) : w.heap.size ≤ gb9001)); clear HB; have HB := n0_; have BK9001 := n1_; have GW9001 := n2_; have GE9001 := n3_; clear n0_ n1_ n2_ n3_; clear hb hbox hg) | ((with_reducible refine gate_dst (N := 3) rfl ?_); refine box_event ?hg (N := 3) ?hd (cs := #[.int .i64 a1_0, .int .i64 a1_1, .int .i64 a1_2, .slice A1_3 l1_3.length c1_3]) (t := 24) ?hr ?_; (case hd => rfl); (case hg => rfl); (case hr => first | (go_simp; done) | (go_simp; rfl)); intro gb9002 hg w37 hbox hb; have n0_ := Aside0.mk (blk_below (g := gb9001) (o := .cells #[.int .i64 a0_0, .int .i64 a0_1, .int .i64 a0_2, .slice A0_3 l0_3.length c0_3] 24 (0, 0)) (by (with_reducible repeat (first | refine blk_drewN ?_ _ | refine blk_drew ?_ | refine blk_alloc ?_ _)); exact BK9001.out) hb); have n1_ := Aside0.mk (below_step (by repeat (first | (with_reducible first | exact HB.out | apply below_alloc | apply pw_below_drewN | apply below_drew1 | refine below_set ?_ GE9001.out) | exact HB.out)) hb); have n2_ := Aside0.mk (hbox); have n3_ := Aside0.mk ((by rw [hg]; exact (below_size (by repeat (first | (with_reducible first | exact HB.out | apply below_alloc | apply pw_below_drewN | apply below_drew1 | refine below_set ?_ GE9001.out) | exact HB.out))) : w.heap.size ≤ gb9002)); have n4_ := Aside0.mk ((by rw [hg]; exact (below_size (by repeat (first | (with_reducible first | exact HB.out | apply below_alloc | apply pw_below_drewN | apply below_drew1 | refine below_set ?_ GE9001.out) | exact HB.out))) : w.heap.size ≤ gb9002)); have n5_ := Aside0.mk ((by rw [hg]; exact Nat.ne_of_lt (blk_lt (g := gb9001) (o := .cells #[.int .i64 a0_0, .int .i64 a0_1, .int .i64 a0_2, .slice A0_3 l0_3.length c0_3] 24 (0, 0)) (by (with_reducible repeat (first | refine blk_drewN ?_ _ | refine blk_drew ?_ | refine blk_alloc ?_ _)); exact BK9001.out)) : gb9001 ≠ gb9002)); have n6_ := Aside0.mk ((by rw [hg]; exact Nat.ne_of_gt (blk_lt (g := gb9001) (o := .cells #[.int .i64 a0_0, .int .i64 a0_1, .int .i64 a0_2, .slice A0_3 l0_3.length c0_3] 24 (0, 0)) (by (with_reducible repeat (first | refine blk_drewN ?_ _ | refine blk_drew ?_ | refine blk_alloc ?_ _)); exact BK9001.out)) : gb9002 ≠ gb9001)); clear BK9001; clear HB; have BK9001 := n0_; have HB := n1_; have BK9002 := n2_; have GW9002 := n3_; have GE9002 := n4_; have NB9001_9002 := n5_; have NB9002_9001 := n6_; clear n0_ n1_ n2_ n3_ n4_ n5_ n6_; clear hb hbox hg; have hnb38 := NB9001_9002.out; have hnc38 := NB9002_9001.out; have hcz39_0 : w37.cell? ⟨gb9001, 0, none⟩ = some (.int .i64 a0_0) := (blk_cell BK9001.out 0).trans rfl; have hcz39_1 : w37.cell? ⟨gb9001, 1, none⟩ = some (.int .i64 a0_1) := (blk_cell BK9001.out 1).trans rfl; have hcz39_2 : w37.cell? ⟨gb9001, 2, none⟩ = some (.int .i64 a0_2) := (blk_cell BK9001.out 2).trans rfl; have hcz39_3 : w37.cell? ⟨gb9001, 3, none⟩ = some (.slice A0_3 l0_3.length c0_3) := (blk_cell BK9001.out 3).trans rfl; have hfz39_0 := blk_frozen BK9001.out 0; have hfz39_1 := blk_frozen BK9001.out 1; have hfz39_2 := blk_frozen BK9001.out 2; have hfz39_3 := blk_frozen BK9001.out 3) | ((with_reducible refine gate_callee (f := 11) rfl ?_); refine goesL_ (some 16) rfl rfl Try.func11 (by kernel_rfl) rfl #[.agg #[.int .i64 a0_0, .int .i64 a0_1, .int .i64 a0_2, .slice A0_3 l0_3.length c0_3], .int .i64 1048576] rfl (by (try simp only [List.map_toArray, List.map_cons, List.map_nil]); first | done | rfl | (simp only [List.length_drop, List.length_take]; rfl)) ?_; (with_reducible refine (laws_szImage.calls a0_0 a0_1 a0_2 _ _ l0_3 1048576 t9003 _ ?side1 ?side2 A3.out).mono ?_); (case side1 => repeat (first | exact (Kd.C_below HR0_3.out HB.out) | (with_reducible refine Kd.C_alloc ?_ _) | (with_reducible refine Kd.C_drewN ?_ _) | (with_reducible refine Kd.C_drew ?_))); (case side2 => exact HC0_3.out); rintro e w40 ⟨rfl, hb⟩; refine ⟨_, rfl, ?_⟩; have n0_ := Aside0.mk (blk_below (g := gb9001) (o := .cells #[.int .i64 a0_0, .int .i64 a0_1, .int .i64 a0_2, .slice A0_3 l0_3.length c0_3] 24 (0, 0)) (by (with_reducible repeat (first | refine blk_drewN ?_ _ | refine blk_drew ?_ | refine blk_alloc ?_ _)); exact BK9001.out) hb); have n1_ := Aside0.mk (blk_below (g := gb9002) (o := .cells #[.int .i64 a1_0, .int .i64 a1_1, .int .i64 a1_2, .slice A1_3 l1_3.length c1_3] 24 (0, 0)) (by (with_reducible repeat (first | refine blk_drewN ?_ _ | refine blk_drew ?_ | refine blk_alloc ?_ _)); exact BK9002.out) hb); have n2_ := Aside0.mk (below_step (by repeat (first | (with_reducible first | exact HB.out | apply below_alloc | apply pw_below_drewN | apply below_drew1 | refine below_set ?_ GE9001.out | refine below_set ?_ GE9002.out) | exact HB.out)) hb); clear BK9001; clear BK9002; clear HB; have BK9001 := n0_; have BK9002 := n1_; have HB := n2_; clear n0_ n1_ n2_; (try clear hb); (try clear hb2); (try clear hk); (try clear hi); have hcz41_0 : w40.cell? ⟨gb9002, 0, none⟩ = some (.int .i64 a1_0) := (blk_cell BK9002.out 0).trans rfl; have hcz41_1 : w40.cell? ⟨gb9002, 1, none⟩ = some (.int .i64 a1_1) := (blk_cell BK9002.out 1).trans rfl; have hcz41_2 : w40.cell? ⟨gb9002, 2, none⟩ = some (.int .i64 a1_2) := (blk_cell BK9002.out 2).trans rfl; have hcz41_3 : w40.cell? ⟨gb9002, 3, none⟩ = some (.slice A1_3 l1_3.length c1_3) := (blk_cell BK9002.out 3).trans rfl; have hfz41_0 := blk_frozen BK9002.out 0; have hfz41_1 := blk_frozen BK9002.out 1; have hfz41_2 := blk_frozen BK9002.out 2; have hfz41_3 := blk_frozen BK9002.out 3) | ((with_reducible refine gate_callee (f := 11) rfl ?_); refine goesL_ (some 21) rfl rfl Try.func11 (by kernel_rfl) rfl #[.agg #[.int .i64 a1_0, .int .i64 a1_1, .int .i64 a1_2, .slice A1_3 l1_3.length c1_3], .int .i64 t9003] rfl (by (try simp only [List.map_toArray, List.map_cons, List.map_nil]); first | done | rfl | (simp only [List.length_drop, List.length_take]; rfl)) ?_; (with_reducible refine (laws_szImage.calls a1_0 a1_1 a1_2 _ _ l1_3 t9003 t9004 _ ?side1 ?side2 A10.out).mono ?_); (case side1 => repeat (first | exact (Kd.C_below HR1_3.out HB.out) | (with_reducible refine Kd.C_alloc ?_ _) | (with_reducible refine Kd.C_drewN ?_ _) | (with_reducible refine Kd.C_drew ?_))); (case side2 => exact HC1_3.out); rintro e w42 ⟨rfl, hb⟩; refine ⟨_, rfl, ?_⟩; have n0_ := Aside0.mk (blk_below (g := gb9001) (o := .cells #[.int .i64 a0_0, .int .i64 a0_1, .int .i64 a0_2, .slice A0_3 l0_3.length c0_3] 24 (0, 0)) (by (with_reducible repeat (first | refine blk_drewN ?_ _ | refine blk_drew ?_ | refine blk_alloc ?_ _)); exact BK9001.out) hb); have n1_ := Aside0.mk (blk_below (g := gb9002) (o := .cells #[.int .i64 a1_0, .int .i64 a1_1, .int .i64 a1_2, .slice A1_3 l1_3.length c1_3] 24 (0, 0)) (by (with_reducible repeat (first | refine blk_drewN ?_ _ | refine blk_drew ?_ | refine blk_alloc ?_ _)); exact BK9002.out) hb); have n2_ := Aside0.mk (below_step (by repeat (first | (with_reducible first | exact HB.out | apply below_alloc | apply pw_below_drewN | apply below_drew1 | refine below_set ?_ GE9001.out | refine below_set ?_ GE9002.out) | exact HB.out)) hb); clear BK9001; clear BK9002; clear HB; have BK9001 := n0_; have BK9002 := n1_; have HB := n2_; clear n0_ n1_ n2_; (try clear hb); (try clear hb2); (try clear hk); (try clear hi)))
            have n0_ := Aside0.mk (blk_drew BK9001.out)
            have n1_ := Aside0.mk (blk_drew BK9002.out)
            have n2_ := Aside0.mk (below_drew1 HB.out)
            clear BK9001
            clear BK9002
            clear HB
            have BK9001 := n0_
            have BK9002 := n1_
            have HB := n2_
            clear n0_ n1_ n2_
            refine start_ (n := 6) (S := fun w' => w'.cell? ⟨gb9001, 0, none⟩ = some (.int .i64 a0_0) ∧ w'.cell? ⟨gb9001, 1, none⟩ = some (.int .i64 a0_1) ∧ w'.cell? ⟨gb9001, 2, none⟩ = some (.int .i64 a0_2) ∧ w'.cell? ⟨gb9001, 3, none⟩ = some (.slice A0_3 l0_3.length c0_3) ∧ w'.cell? ⟨gb9002, 0, none⟩ = some (.int .i64 a1_0) ∧ w'.cell? ⟨gb9002, 1, none⟩ = some (.int .i64 a1_1) ∧ w'.cell? ⟨gb9002, 2, none⟩ = some (.int .i64 a1_2) ∧ w'.cell? ⟨gb9002, 3, none⟩ = some (.slice A1_3 l1_3.length c1_3)) (ds := []) #[false, false, false, false, false, false] (by kernel_rfl) rfl rfl ⟨(blk_cell BK9001.out 0).trans rfl, (blk_cell BK9001.out 1).trans rfl, (blk_cell BK9001.out 2).trans rfl, (blk_cell BK9001.out 3).trans rfl, (blk_cell BK9002.out 0).trans rfl, (blk_cell BK9002.out 1).trans rfl, (blk_cell BK9002.out 2).trans rfl, (blk_cell BK9002.out 3).trans rfl⟩ (fun hHeld => ?_)
            generalize w42.drew = w43 at BK9001 BK9002 HB hHeld ⊢
            refine take_ (i := 0) (N := some 24) (v := ?_) (a' := ?_) #[true, false, false, false, false, false] rfl rfl (by kernel_rfl) (fun _ _ _ h => h) (Or.inl ⟨by rfl, ?_⟩) hHeld ?_ ?_
            rotate_left
            · rintro w' ⟨s0, s1, s2, s3, s4, s5, s6, s7⟩
              go_simp
              with_reducible rfl
            rotate_left
            · simp only [Act.put, List.setIfInBounds_toArray, List.set_cons_zero, List.set_cons_succ, i64_w, i32_w]
              rfl
            refine take_ (i := 2) (N := some 26) (v := ?_) (a' := ?_) #[true, false, true, false, false, false] rfl rfl (by kernel_rfl) (fun _ _ _ h => h) (Or.inl ⟨by rfl, ?_⟩) hHeld ?_ ?_
            rotate_left
            · rintro w' ⟨s0, s1, s2, s3, s4, s5, s6, s7⟩
              go_simp
              with_reducible rfl
            rotate_left
            · simp only [Act.put, List.setIfInBounds_toArray, List.set_cons_zero, List.set_cons_succ, i64_w, i32_w]
              rfl
            refine one_ (i := 1) (N := some 25) #[true, true, true, false, false, false] rfl rfl (by kernel_rfl) (by decide) (fun K hK => ?_)
            refine goes_ Try.func13 (by kernel_rfl) rfl #[.agg #[.int .i64 a0_0, .int .i64 a0_1, .int .i64 a0_2, .slice A0_3 l0_3.length c0_3]] (by rfl) rfl rfl (by (try simp only [List.map_toArray, List.map_cons, List.map_nil]); first | done | rfl | (simp only [List.length_drop, List.length_take]; rfl)) ?_
            with_reducible refine (laws_toImage.calls k a0_0 a0_1 a0_2 _ _ l0_3 t9005 t9006 t9007 t9008 _ ?side1 ?side2 A19.out).mono ?_
            (case side1 => repeat (first | exact (Kd.C_below HR0_3.out HB.out) | (with_reducible refine Kd.C_alloc ?_ _) | (with_reducible refine Kd.C_drewN ?_ _) | (with_reducible refine Kd.C_drew ?_)))
            (case side2 => exact HC0_3.out)
            rintro e w44 ⟨v9009, rfl, ho0, hb⟩
            refine ⟨_, rfl, ?_⟩
            have n0_ := Aside0.mk (Kd.R_lower ho0 (below_size (by repeat (first | (with_reducible first | exact HB.out | apply below_alloc | apply pw_below_drewN | apply below_drew1 | refine below_set ?_ GE9001.out | refine below_set ?_ GE9002.out) | exact HB.out))))
            have n1_ := Aside0.mk (blk_below (g := gb9001) (o := .cells #[.int .i64 a0_0, .int .i64 a0_1, .int .i64 a0_2, .slice A0_3 l0_3.length c0_3] 24 (0, 0)) (by (with_reducible repeat (first | refine blk_drewN ?_ _ | refine blk_drew ?_ | refine blk_alloc ?_ _)); exact BK9001.out) hb)
            have n2_ := Aside0.mk (blk_below (g := gb9002) (o := .cells #[.int .i64 a1_0, .int .i64 a1_1, .int .i64 a1_2, .slice A1_3 l1_3.length c1_3] 24 (0, 0)) (by (with_reducible repeat (first | refine blk_drewN ?_ _ | refine blk_drew ?_ | refine blk_alloc ?_ _)); exact BK9002.out) hb)
            have n3_ := Aside0.mk (below_step (by repeat (first | (with_reducible first | exact HB.out | apply below_alloc | apply pw_below_drewN | apply below_drew1 | refine below_set ?_ GE9001.out | refine below_set ?_ GE9002.out) | exact HB.out)) hb)
            clear BK9001
            clear BK9002
            clear HB
            have HO9010 := n0_
            have BK9001 := n1_
            have BK9002 := n2_
            have HB := n3_
            clear n0_ n1_ n2_ n3_
            (try clear hb)
            (try clear hb2)
            (try clear hk)
            (try clear hi)
            (try clear ho0)
            refine hK.out _ _ ⟨(blk_cell BK9001.out 0).trans rfl, (blk_cell BK9001.out 1).trans rfl, (blk_cell BK9001.out 2).trans rfl, (blk_cell BK9001.out 3).trans rfl, (blk_cell BK9002.out 0).trans rfl, (blk_cell BK9002.out 1).trans rfl, (blk_cell BK9002.out 2).trans rfl, (blk_cell BK9002.out 3).trans rfl⟩ (fun hHeld => ?_)
            clear hK K
            refine norm_ (a' := ?_) ?_ ?_
            rotate_left
            · show Act.put _ (some 25) _ = _
              simp only [Act.put, List.setIfInBounds_toArray, List.set_cons_zero, List.set_cons_succ, i64_w, i32_w]
              rfl
            refine one_ (i := 3) (N := some 27) #[true, true, true, true, false, false] rfl rfl (by kernel_rfl) (by decide) (fun K hK => ?_)
            refine goes_ Try.func13 (by kernel_rfl) rfl #[.agg #[.int .i64 a1_0, .int .i64 a1_1, .int .i64 a1_2, .slice A1_3 l1_3.length c1_3]] (by rfl) rfl rfl (by (try simp only [List.map_toArray, List.map_cons, List.map_nil]); first | done | rfl | (simp only [List.length_drop, List.length_take]; rfl)) ?_
            with_reducible refine (laws_toImage.calls k a1_0 a1_1 a1_2 _ _ l1_3 t9011 t9012 t9013 t9014 _ ?side1 ?side2 A20.out).mono ?_
            (case side1 => repeat (first | exact (Kd.C_below HR1_3.out HB.out) | (with_reducible refine Kd.C_alloc ?_ _) | (with_reducible refine Kd.C_drewN ?_ _) | (with_reducible refine Kd.C_drew ?_)))
            (case side2 => exact HC1_3.out)
            rintro e w45 ⟨v9015, rfl, ho0, hb⟩
            refine ⟨_, rfl, ?_⟩
            have n0_ := Aside0.mk (Kd.R_elder' (by (with_reducible repeat (first | apply Kd.R_alloc | apply Kd.R_drewN | apply Kd.R_drew)); exact HO9010.out) (Kd.R_base ho0) hb)
            have n1_ := Aside0.mk (Kd.R_lower (Kd.R_new' ho0 (Kd.R_lt (by (with_reducible repeat (first | apply Kd.R_alloc | apply Kd.R_drewN | apply Kd.R_drew)); exact HO9010.out))) (below_size (by repeat (first | (with_reducible first | exact HB.out | apply below_alloc | apply pw_below_drewN | apply below_drew1 | refine below_set ?_ GE9001.out | refine below_set ?_ GE9002.out) | exact HB.out))))
            have n2_ := Aside0.mk (blk_below (g := gb9001) (o := .cells #[.int .i64 a0_0, .int .i64 a0_1, .int .i64 a0_2, .slice A0_3 l0_3.length c0_3] 24 (0, 0)) (by (with_reducible repeat (first | refine blk_drewN ?_ _ | refine blk_drew ?_ | refine blk_alloc ?_ _)); exact BK9001.out) hb)
            have n3_ := Aside0.mk (blk_below (g := gb9002) (o := .cells #[.int .i64 a1_0, .int .i64 a1_1, .int .i64 a1_2, .slice A1_3 l1_3.length c1_3] 24 (0, 0)) (by (with_reducible repeat (first | refine blk_drewN ?_ _ | refine blk_drew ?_ | refine blk_alloc ?_ _)); exact BK9002.out) hb)
            have n4_ := Aside0.mk (below_step (by repeat (first | (with_reducible first | exact HB.out | apply below_alloc | apply pw_below_drewN | apply below_drew1 | refine below_set ?_ GE9001.out | refine below_set ?_ GE9002.out) | exact HB.out)) hb)
            clear HO9010
            clear BK9001
            clear BK9002
            clear HB
            have HO9010 := n0_
            have HO9016 := n1_
            have BK9001 := n2_
            have BK9002 := n3_
            have HB := n4_
            clear n0_ n1_ n2_ n3_ n4_
            (try clear hb)
            (try clear hb2)
            (try clear hk)
            (try clear hi)
            (try clear ho0)
            obtain ⟨Ao46, co46, eo46⟩ := Kd.R_slice HO9010.out
            (first | subst eo46 | (injection eo46 with f1_ f2_ f3_; have f4_ := f1_.symm; have f5_ := f3_.symm; clear f1_ f2_ f3_; subst f4_; subst f5_))
            obtain ⟨Ao47, co47, eo47⟩ := Kd.R_slice HO9016.out
            (first | subst eo47 | (injection eo47 with f1_ f2_ f3_; have f4_ := f1_.symm; have f5_ := f3_.symm; clear f1_ f2_ f3_; subst f4_; subst f5_))
            refine hK.out _ _ ⟨(blk_cell BK9001.out 0).trans rfl, (blk_cell BK9001.out 1).trans rfl, (blk_cell BK9001.out 2).trans rfl, (blk_cell BK9001.out 3).trans rfl, (blk_cell BK9002.out 0).trans rfl, (blk_cell BK9002.out 1).trans rfl, (blk_cell BK9002.out 2).trans rfl, (blk_cell BK9002.out 3).trans rfl⟩ (fun hHeld => ?_)
            clear hK K
            refine norm_ (a' := ?_) ?_ ?_
            rotate_left
            · show Act.put _ (some 27) _ = _
              simp only [Act.put, List.setIfInBounds_toArray, List.set_cons_zero, List.set_cons_succ, i64_w, i32_w]
              rfl
            refine one_ (i := 4) (N := some 28) #[true, true, true, true, true, false] rfl rfl (by kernel_rfl) (by decide) (fun K hK => ?_)
            refine goes_ Try.func32 (by kernel_rfl) rfl #[.agg #[.int .i64 t9005, .int .i64 t9006, .int .i64 t9007, .slice Ao46 t9008.length co46], .agg #[.int .i64 t9011, .int .i64 t9012, .int .i64 t9013, .slice Ao47 t9014.length co47]] (by rfl) rfl rfl (by (try simp only [List.map_toArray, List.map_cons, List.map_nil]); first | done | rfl | (simp only [List.length_drop, List.length_take]; rfl)) ?_
            with_reducible refine (spec_ChangedBoxes.calls k t9005 t9006 t9007 _ _ t9008 t9011 t9012 t9013 _ _ t9014 t9017 _ ?side1 ?side2 ?side3 ?side4 A21.out).mono ?_
            (case side1 => repeat (first | exact (Kd.R_reads' HO9010.out).2.2 | (with_reducible refine Kd.C_alloc ?_ _) | (with_reducible refine Kd.C_drewN ?_ _) | (with_reducible refine Kd.C_drew ?_)))
            (case side2 => exact (Kd.R_reads' HO9010.out).2.1)
            (case side3 => repeat (first | exact (Kd.R_reads' HO9016.out).2.2 | (with_reducible refine Kd.C_alloc ?_ _) | (with_reducible refine Kd.C_drewN ?_ _) | (with_reducible refine Kd.C_drew ?_)))
            (case side4 => exact (Kd.R_reads' HO9016.out).2.1)
            rintro e w48 ⟨v9018, rfl, ho0, hb⟩
            refine ⟨_, rfl, ?_⟩
            have n0_ := Aside0.mk (Kd.R_below (by (with_reducible repeat (first | apply Kd.R_alloc | apply Kd.R_drewN | apply Kd.R_drew)); exact HO9010.out) hb)
            have n1_ := Aside0.mk (Kd.R_below (by (with_reducible repeat (first | apply Kd.R_alloc | apply Kd.R_drewN | apply Kd.R_drew)); exact HO9016.out) hb)
            have n2_ := Aside0.mk (Kd.R_lower ho0 (below_size (by repeat (first | (with_reducible first | exact HB.out | apply below_alloc | apply pw_below_drewN | apply below_drew1 | refine below_set ?_ GE9001.out | refine below_set ?_ GE9002.out) | exact HB.out))))
            have n3_ := Aside0.mk (blk_below (g := gb9001) (o := .cells #[.int .i64 a0_0, .int .i64 a0_1, .int .i64 a0_2, .slice A0_3 l0_3.length c0_3] 24 (0, 0)) (by (with_reducible repeat (first | refine blk_drewN ?_ _ | refine blk_drew ?_ | refine blk_alloc ?_ _)); exact BK9001.out) hb)
            have n4_ := Aside0.mk (blk_below (g := gb9002) (o := .cells #[.int .i64 a1_0, .int .i64 a1_1, .int .i64 a1_2, .slice A1_3 l1_3.length c1_3] 24 (0, 0)) (by (with_reducible repeat (first | refine blk_drewN ?_ _ | refine blk_drew ?_ | refine blk_alloc ?_ _)); exact BK9002.out) hb)
            have n5_ := Aside0.mk (below_step (by repeat (first | (with_reducible first | exact HB.out | apply below_alloc | apply pw_below_drewN | apply below_drew1 | refine below_set ?_ GE9001.out | refine below_set ?_ GE9002.out) | exact HB.out)) hb)
            clear HO9010
            clear HO9016
            clear BK9001
            clear BK9002
            clear HB
            have HO9010 := n0_
            have HO9016 := n1_
            have HO9019 := n2_
            have BK9001 := n3_
            have BK9002 := n4_
            have HB := n5_
            clear n0_ n1_ n2_ n3_ n4_ n5_
            (try clear hb)
            (try clear hb2)
            (try clear hk)
            (try clear hi)
            (try clear ho0)
            refine hK.out _ _ ⟨(blk_cell BK9001.out 0).trans rfl, (blk_cell BK9001.out 1).trans rfl, (blk_cell BK9001.out 2).trans rfl, (blk_cell BK9001.out 3).trans rfl, (blk_cell BK9002.out 0).trans rfl, (blk_cell BK9002.out 1).trans rfl, (blk_cell BK9002.out 2).trans rfl, (blk_cell BK9002.out 3).trans rfl⟩ (fun hHeld => ?_)
            clear hK K
            refine norm_ (a' := ?_) ?_ ?_
            rotate_left
            · show Act.put _ (some 28) _ = _
              simp only [Act.put, List.setIfInBounds_toArray, List.set_cons_zero, List.set_cons_succ, i64_w, i32_w]
              rfl
            refine pure_ (i := 5) (N := some 6) (v := ?_) (a' := ?_) #[true, true, true, true, true, true] rfl rfl (by kernel_rfl) (fun _ _ _ h => h) (Or.inl ⟨by rfl, ?_⟩) ?_ ?_
            rotate_left
            · intro w'
              go_simp
              with_reducible rfl
            rotate_left
            · simp only [Act.put, List.setIfInBounds_toArray, List.set_cons_zero, List.set_cons_succ, i64_w, i32_w]
              rfl
            refine done_ (by kernel_rfl) ?_
            have hcz49_0 : w48.cell? ⟨gb9001, 0, none⟩ = some (.int .i64 a0_0) := (blk_cell BK9001.out 0).trans rfl
            have hcz49_1 : w48.cell? ⟨gb9001, 1, none⟩ = some (.int .i64 a0_1) := (blk_cell BK9001.out 1).trans rfl
            have hcz49_2 : w48.cell? ⟨gb9001, 2, none⟩ = some (.int .i64 a0_2) := (blk_cell BK9001.out 2).trans rfl
            have hcz49_3 : w48.cell? ⟨gb9001, 3, none⟩ = some (.slice A0_3 l0_3.length c0_3) := (blk_cell BK9001.out 3).trans rfl
            have hfz49_0 := blk_frozen BK9001.out 0
            have hfz49_1 := blk_frozen BK9001.out 1
            have hfz49_2 := blk_frozen BK9001.out 2
            have hfz49_3 := blk_frozen BK9001.out 3
            try go_wp2_with (first | ((with_reducible refine gate_callee (f := 13) rfl ?_); refine goesL_ (some 30) rfl rfl Try.func13 (by kernel_rfl) rfl #[.agg #[.int .i64 a0_0, .int .i64 a0_1, .int .i64 a0_2, .slice A0_3 l0_3.length c0_3]] rfl (by (try simp only [List.map_toArray, List.map_cons, List.map_nil]); first | done | rfl | (simp only [List.length_drop, List.length_take]; rfl)) ?_; (with_reducible refine (laws_toImage.calls k a0_0 a0_1 a0_2 _ _ l0_3 t9020 t9021 t9022 t9023 _ ?side1 ?side2 A22.out).mono ?_); (case side1 => repeat (first | exact (Kd.C_below HR0_3.out HB.out) | (with_reducible refine Kd.C_alloc ?_ _) | (with_reducible refine Kd.C_drewN ?_ _) | (with_reducible refine Kd.C_drew ?_))); (case side2 => exact HC0_3.out); rintro e w50 ⟨v9024, rfl, ho0, hb⟩; refine ⟨_, rfl, ?_⟩; have n0_ := Aside0.mk (Kd.R_elder' (by (with_reducible repeat (first | apply Kd.R_alloc | apply Kd.R_drewN | apply Kd.R_drew)); exact HO9010.out) (Kd.R_base ho0) hb); have n1_ := Aside0.mk (Kd.R_elder' (by (with_reducible repeat (first | apply Kd.R_alloc | apply Kd.R_drewN | apply Kd.R_drew)); exact HO9016.out) (Kd.R_base ho0) hb); have n2_ := Aside0.mk (Kd.R_below (by (with_reducible repeat (first | apply Kd.R_alloc | apply Kd.R_drewN | apply Kd.R_drew)); exact HO9019.out) hb); have n3_ := Aside0.mk (Kd.R_lower (Kd.R_new' (Kd.R_new' ho0 (Kd.R_lt (by (with_reducible repeat (first | apply Kd.R_alloc | apply Kd.R_drewN | apply Kd.R_drew)); exact HO9010.out))) (Kd.R_lt (by (with_reducible repeat (first | apply Kd.R_alloc | apply Kd.R_drewN | apply Kd.R_drew)); exact HO9016.out))) (below_size (by repeat (first | (with_reducible first | exact HB.out | apply below_alloc | apply pw_below_drewN | apply below_drew1 | refine below_set ?_ GE9001.out | refine below_set ?_ GE9002.out) | exact HB.out)))); have n4_ := Aside0.mk (blk_below (g := gb9001) (o := .cells #[.int .i64 a0_0, .int .i64 a0_1, .int .i64 a0_2, .slice A0_3 l0_3.length c0_3] 24 (0, 0)) (by (with_reducible repeat (first | refine blk_drewN ?_ _ | refine blk_drew ?_ | refine blk_alloc ?_ _)); exact BK9001.out) hb); have n5_ := Aside0.mk (blk_below (g := gb9002) (o := .cells #[.int .i64 a1_0, .int .i64 a1_1, .int .i64 a1_2, .slice A1_3 l1_3.length c1_3] 24 (0, 0)) (by (with_reducible repeat (first | refine blk_drewN ?_ _ | refine blk_drew ?_ | refine blk_alloc ?_ _)); exact BK9002.out) hb); have n6_ := Aside0.mk (below_step (by repeat (first | (with_reducible first | exact HB.out | apply below_alloc | apply pw_below_drewN | apply below_drew1 | refine below_set ?_ GE9001.out | refine below_set ?_ GE9002.out) | exact HB.out)) hb); clear HO9010; clear HO9016; clear HO9019; clear BK9001; clear BK9002; clear HB; have HO9010 := n0_; have HO9016 := n1_; have HO9019 := n2_; have HO9025 := n3_; have BK9001 := n4_; have BK9002 := n5_; have HB := n6_; clear n0_ n1_ n2_ n3_ n4_ n5_ n6_; (try clear hb); (try clear hb2); (try clear hk); (try clear hi); (try clear ho0)) | ((with_reducible refine gate_dst (N := 7) rfl ?_); refine box_event ?hg (N := 7) ?hd (cs := #[.int .i64 0, .int .i64 0, .int .i64 0, .slice none 0 0]) (t := 28) ?hr ?_; (case hd => rfl); (case hg => rfl); (case hr => first | (go_simp; done) | (go_simp; rfl)); intro gb9026 hg w51 hbox hb; have n0_ := Aside0.mk (Kd.R_below (by (with_reducible repeat (first | apply Kd.R_alloc | apply Kd.R_drewN | apply Kd.R_drew)); exact HO9010.out) hb); have n1_ := Aside0.mk (Kd.R_below (by (with_reducible repeat (first | apply Kd.R_alloc | apply Kd.R_drewN | apply Kd.R_drew)); exact HO9016.out) hb); have n2_ := Aside0.mk (Kd.R_below (by (with_reducible repeat (first | apply Kd.R_alloc | apply Kd.R_drewN | apply Kd.R_drew)); exact HO9019.out) hb); have n3_ := Aside0.mk (Kd.R_below (by (with_reducible repeat (first | apply Kd.R_alloc | apply Kd.R_drewN | apply Kd.R_drew)); exact HO9025.out) hb); have n4_ := Aside0.mk (blk_below (g := gb9001) (o := .cells #[.int .i64 a0_0, .int .i64 a0_1, .int .i64 a0_2, .slice A0_3 l0_3.length c0_3] 24 (0, 0)) (by (with_reducible repeat (first | refine blk_drewN ?_ _ | refine blk_drew ?_ | refine blk_alloc ?_ _)); exact BK9001.out) hb); have n5_ := Aside0.mk (blk_below (g := gb9002) (o := .cells #[.int .i64 a1_0, .int .i64 a1_1, .int .i64 a1_2, .slice A1_3 l1_3.length c1_3] 24 (0, 0)) (by (with_reducible repeat (first | refine blk_drewN ?_ _ | refine blk_drew ?_ | refine blk_alloc ?_ _)); exact BK9002.out) hb); have n6_ := Aside0.mk (below_step (by repeat (first | (with_reducible first | exact HB.out | apply below_alloc | apply pw_below_drewN | apply below_drew1 | refine below_set ?_ GE9001.out | refine below_set ?_ GE9002.out) | exact HB.out)) hb); have n7_ := Aside0.mk (hbox); have n8_ := Aside0.mk ((by rw [hg]; exact (below_size (by repeat (first | (with_reducible first | exact HB.out | apply below_alloc | apply pw_below_drewN | apply below_drew1 | refine below_set ?_ GE9001.out | refine below_set ?_ GE9002.out) | exact HB.out))) : w.heap.size ≤ gb9026)); have n9_ := Aside0.mk ((by rw [hg]; exact (below_size (by repeat (first | (with_reducible first | exact HB.out | apply below_alloc | apply pw_below_drewN | apply below_drew1 | refine below_set ?_ GE9001.out | refine below_set ?_ GE9002.out) | exact HB.out))) : w.heap.size ≤ gb9026)); have n10_ := Aside0.mk ((by rw [hg]; exact Nat.ne_of_lt (blk_lt (g := gb9001) (o := .cells #[.int .i64 a0_0, .int .i64 a0_1, .int .i64 a0_2, .slice A0_3 l0_3.length c0_3] 24 (0, 0)) (by (with_reducible repeat (first | refine blk_drewN ?_ _ | refine blk_drew ?_ | refine blk_alloc ?_ _)); exact BK9001.out)) : gb9001 ≠ gb9026)); have n11_ := Aside0.mk ((by rw [hg]; exact Nat.ne_of_gt (blk_lt (g := gb9001) (o := .cells #[.int .i64 a0_0, .int .i64 a0_1, .int .i64 a0_2, .slice A0_3 l0_3.length c0_3] 24 (0, 0)) (by (with_reducible repeat (first | refine blk_drewN ?_ _ | refine blk_drew ?_ | refine blk_alloc ?_ _)); exact BK9001.out)) : gb9026 ≠ gb9001)); have n12_ := Aside0.mk ((by rw [hg]; exact Nat.ne_of_lt (blk_lt (g := gb9002) (o := .cells #[.int .i64 a1_0, .int .i64 a1_1, .int .i64 a1_2, .slice A1_3 l1_3.length c1_3] 24 (0, 0)) (by (with_reducible repeat (first | refine blk_drewN ?_ _ | refine blk_drew ?_ | refine blk_alloc ?_ _)); exact BK9002.out)) : gb9002 ≠ gb9026)); have n13_ := Aside0.mk ((by rw [hg]; exact Nat.ne_of_gt (blk_lt (g := gb9002) (o := .cells #[.int .i64 a1_0, .int .i64 a1_1, .int .i64 a1_2, .slice A1_3 l1_3.length c1_3] 24 (0, 0)) (by (with_reducible repeat (first | refine blk_drewN ?_ _ | refine blk_drew ?_ | refine blk_alloc ?_ _)); exact BK9002.out)) : gb9026 ≠ gb9002)); clear HO9010; clear HO9016; clear HO9019; clear HO9025; clear BK9001; clear BK9002; clear HB; have HO9010 := n0_; have HO9016 := n1_; have HO9019 := n2_; have HO9025 := n3_; have BK9001 := n4_; have BK9002 := n5_; have HB := n6_; have BK9026 := n7_; have GW9026 := n8_; have GE9026 := n9_; have NB9001_9026 := n10_; have NB9026_9001 := n11_; have NB9002_9026 := n12_; have NB9026_9002 := n13_; clear n0_ n1_ n2_ n3_ n4_ n5_ n6_ n7_ n8_ n9_ n10_ n11_ n12_ n13_; clear hb hbox hg; have hnb52 := NB9026_9001.out; have hnc52 := NB9001_9026.out; have hnb53 := NB9026_9002.out; have hnc53 := NB9002_9026.out; have hcz54_0 : w51.cell? ⟨gb9026, 0, none⟩ = some (.int .i64 0) := (blk_cell BK9026.out 0).trans rfl; have hcz54_1 : w51.cell? ⟨gb9026, 1, none⟩ = some (.int .i64 0) := (blk_cell BK9026.out 1).trans rfl; have hcz54_2 : w51.cell? ⟨gb9026, 2, none⟩ = some (.int .i64 0) := (blk_cell BK9026.out 2).trans rfl; have hcz54_3 : w51.cell? ⟨gb9026, 3, none⟩ = some (.slice none 0 0) := (blk_cell BK9026.out 3).trans rfl; have hfz54_0 := blk_frozen BK9026.out 0; have hfz54_1 := blk_frozen BK9026.out 1; have hfz54_2 := blk_frozen BK9026.out 2; have hfz54_3 := blk_frozen BK9026.out 3; obtain ⟨Ao55, co55, eo55⟩ := Kd.R_slice HO9025.out; subst eo55; have hcz56_0 : w51.cell? ⟨gb9002, 0, none⟩ = some (.int .i64 a1_0) := (blk_cell BK9002.out 0).trans rfl; have hcz56_1 : w51.cell? ⟨gb9002, 1, none⟩ = some (.int .i64 a1_1) := (blk_cell BK9002.out 1).trans rfl; have hcz56_2 : w51.cell? ⟨gb9002, 2, none⟩ = some (.int .i64 a1_2) := (blk_cell BK9002.out 2).trans rfl; have hcz56_3 : w51.cell? ⟨gb9002, 3, none⟩ = some (.slice A1_3 l1_3.length c1_3) := (blk_cell BK9002.out 3).trans rfl; have hfz56_0 := blk_frozen BK9002.out 0; have hfz56_1 := blk_frozen BK9002.out 1; have hfz56_2 := blk_frozen BK9002.out 2; have hfz56_3 := blk_frozen BK9002.out 3) | ((with_reducible refine gate_callee (f := 13) rfl ?_); refine goesL_ (some 32) rfl rfl Try.func13 (by kernel_rfl) rfl #[.agg #[.int .i64 a1_0, .int .i64 a1_1, .int .i64 a1_2, .slice A1_3 l1_3.length c1_3]] rfl (by (try simp only [List.map_toArray, List.map_cons, List.map_nil]); first | done | rfl | (simp only [List.length_drop, List.length_take]; rfl)) ?_; (with_reducible refine (laws_toImage.calls k a1_0 a1_1 a1_2 _ _ l1_3 t9027 t9028 t9029 t9030 _ ?side1 ?side2 A23.out).mono ?_); (case side1 => exact Kd.C_below HR1_3.out (by repeat (first | (with_reducible first | exact HB.out | apply below_alloc | apply pw_below_drewN | apply below_drew1 | refine below_set ?_ GE9001.out | refine below_set ?_ GE9002.out | refine below_set ?_ GE9026.out) | exact HB.out))); (case side2 => exact HC1_3.out); rintro e w57 ⟨v9031, rfl, ho0, hb⟩; refine ⟨_, rfl, ?_⟩; have n0_ := Aside0.mk (Kd.R_elder' (by (with_reducible repeat (first | apply Kd.R_alloc | apply Kd.R_drewN | apply Kd.R_drew)); exact (Kd.R_mono (Kd.R_far (p := ⟨gb9026, 3, none⟩) (Kd.R_far (p := ⟨gb9026, 2, none⟩) (Kd.R_far (p := ⟨gb9026, 1, none⟩) (Kd.R_far (p := ⟨gb9026, 0, none⟩) (Kd.R_types HO9010.out BK9026.out (by decide)) (fun _ hk => hk.2) (.int .i64 t9020)) (fun _ hk => hk.2) (.int .i64 t9021)) (fun _ hk => hk.2) (.int .i64 t9022)) (fun _ hk => hk.2) (.slice Ao55 t9023.length co55)) (fun _ h_ => h_.1))) (Kd.R_base ho0) hb); have n1_ := Aside0.mk (Kd.R_elder' (by (with_reducible repeat (first | apply Kd.R_alloc | apply Kd.R_drewN | apply Kd.R_drew)); exact (Kd.R_mono (Kd.R_far (p := ⟨gb9026, 3, none⟩) (Kd.R_far (p := ⟨gb9026, 2, none⟩) (Kd.R_far (p := ⟨gb9026, 1, none⟩) (Kd.R_far (p := ⟨gb9026, 0, none⟩) (Kd.R_types HO9016.out BK9026.out (by decide)) (fun _ hk => hk.2) (.int .i64 t9020)) (fun _ hk => hk.2) (.int .i64 t9021)) (fun _ hk => hk.2) (.int .i64 t9022)) (fun _ hk => hk.2) (.slice Ao55 t9023.length co55)) (fun _ h_ => h_.1))) (Kd.R_base ho0) hb); have n2_ := Aside0.mk (Kd.R_below (by (with_reducible repeat (first | apply Kd.R_alloc | apply Kd.R_drewN | apply Kd.R_drew)); exact (Kd.R_mono (Kd.R_far (p := ⟨gb9026, 3, none⟩) (Kd.R_far (p := ⟨gb9026, 2, none⟩) (Kd.R_far (p := ⟨gb9026, 1, none⟩) (Kd.R_far (p := ⟨gb9026, 0, none⟩) (Kd.R_types HO9019.out BK9026.out (by decide)) (fun _ hk => hk.2) (.int .i64 t9020)) (fun _ hk => hk.2) (.int .i64 t9021)) (fun _ hk => hk.2) (.int .i64 t9022)) (fun _ hk => hk.2) (.slice Ao55 t9023.length co55)) (fun _ h_ => h_.1))) hb); have n3_ := Aside0.mk (Kd.R_elder' (by (with_reducible repeat (first | apply Kd.R_alloc | apply Kd.R_drewN | apply Kd.R_drew)); exact (Kd.R_mono (Kd.R_far (p := ⟨gb9026, 3, none⟩) (Kd.R_far (p := ⟨gb9026, 2, none⟩) (Kd.R_far (p := ⟨gb9026, 1, none⟩) (Kd.R_far (p := ⟨gb9026, 0, none⟩) (Kd.R_types HO9025.out BK9026.out (by decide)) (fun _ hk => hk.2) (.int .i64 t9020)) (fun _ hk => hk.2) (.int .i64 t9021)) (fun _ hk => hk.2) (.int .i64 t9022)) (fun _ hk => hk.2) (.slice Ao55 t9023.length co55)) (fun _ h_ => h_.1))) (Kd.R_base ho0) hb); have n4_ := Aside0.mk (Kd.R_lower (Kd.R_new' (Kd.R_new' (Kd.R_new' ho0 (Kd.R_lt (by (with_reducible repeat (first | apply Kd.R_alloc | apply Kd.R_drewN | apply Kd.R_drew)); exact (Kd.R_mono (Kd.R_far (p := ⟨gb9026, 3, none⟩) (Kd.R_far (p := ⟨gb9026, 2, none⟩) (Kd.R_far (p := ⟨gb9026, 1, none⟩) (Kd.R_far (p := ⟨gb9026, 0, none⟩) (Kd.R_types HO9010.out BK9026.out (by decide)) (fun _ hk => hk.2) (.int .i64 t9020)) (fun _ hk => hk.2) (.int .i64 t9021)) (fun _ hk => hk.2) (.int .i64 t9022)) (fun _ hk => hk.2) (.slice Ao55 t9023.length co55)) (fun _ h_ => h_.1))))) (Kd.R_lt (by (with_reducible repeat (first | apply Kd.R_alloc | apply Kd.R_drewN | apply Kd.R_drew)); exact (Kd.R_mono (Kd.R_far (p := ⟨gb9026, 3, none⟩) (Kd.R_far (p := ⟨gb9026, 2, none⟩) (Kd.R_far (p := ⟨gb9026, 1, none⟩) (Kd.R_far (p := ⟨gb9026, 0, none⟩) (Kd.R_types HO9016.out BK9026.out (by decide)) (fun _ hk => hk.2) (.int .i64 t9020)) (fun _ hk => hk.2) (.int .i64 t9021)) (fun _ hk => hk.2) (.int .i64 t9022)) (fun _ hk => hk.2) (.slice Ao55 t9023.length co55)) (fun _ h_ => h_.1))))) (Kd.R_lt (by (with_reducible repeat (first | apply Kd.R_alloc | apply Kd.R_drewN | apply Kd.R_drew)); exact (Kd.R_mono (Kd.R_far (p := ⟨gb9026, 3, none⟩) (Kd.R_far (p := ⟨gb9026, 2, none⟩) (Kd.R_far (p := ⟨gb9026, 1, none⟩) (Kd.R_far (p := ⟨gb9026, 0, none⟩) (Kd.R_types HO9025.out BK9026.out (by decide)) (fun _ hk => hk.2) (.int .i64 t9020)) (fun _ hk => hk.2) (.int .i64 t9021)) (fun _ hk => hk.2) (.int .i64 t9022)) (fun _ hk => hk.2) (.slice Ao55 t9023.length co55)) (fun _ h_ => h_.1))))) (below_size (by repeat (first | (with_reducible first | exact HB.out | apply below_alloc | apply pw_below_drewN | apply below_drew1 | refine below_set ?_ GE9001.out | refine below_set ?_ GE9002.out | refine below_set ?_ GE9026.out) | exact HB.out)))); have n5_ := Aside0.mk (blk_below (g := gb9001) (o := .cells #[.int .i64 a0_0, .int .i64 a0_1, .int .i64 a0_2, .slice A0_3 l0_3.length c0_3] 24 (0, 0)) (by (with_reducible repeat (first | refine blk_drewN ?_ _ | refine blk_drew ?_ | refine blk_alloc ?_ _)); refine blk_far ?_ NB9001_9026.out _; (with_reducible repeat (first | refine blk_drewN ?_ _ | refine blk_drew ?_ | refine blk_alloc ?_ _)); refine blk_far ?_ NB9001_9026.out _; (with_reducible repeat (first | refine blk_drewN ?_ _ | refine blk_drew ?_ | refine blk_alloc ?_ _)); refine blk_far ?_ NB9001_9026.out _; (with_reducible repeat (first | refine blk_drewN ?_ _ | refine blk_drew ?_ | refine blk_alloc ?_ _)); refine blk_far ?_ NB9001_9026.out _; (with_reducible repeat (first | refine blk_drewN ?_ _ | refine blk_drew ?_ | refine blk_alloc ?_ _)); exact BK9001.out) hb); have n6_ := Aside0.mk (blk_below (g := gb9002) (o := .cells #[.int .i64 a1_0, .int .i64 a1_1, .int .i64 a1_2, .slice A1_3 l1_3.length c1_3] 24 (0, 0)) (by (with_reducible repeat (first | refine blk_drewN ?_ _ | refine blk_drew ?_ | refine blk_alloc ?_ _)); refine blk_far ?_ NB9002_9026.out _; (with_reducible repeat (first | refine blk_drewN ?_ _ | refine blk_drew ?_ | refine blk_alloc ?_ _)); refine blk_far ?_ NB9002_9026.out _; (with_reducible repeat (first | refine blk_drewN ?_ _ | refine blk_drew ?_ | refine blk_alloc ?_ _)); refine blk_far ?_ NB9002_9026.out _; (with_reducible repeat (first | refine blk_drewN ?_ _ | refine blk_drew ?_ | refine blk_alloc ?_ _)); refine blk_far ?_ NB9002_9026.out _; (with_reducible repeat (first | refine blk_drewN ?_ _ | refine blk_drew ?_ | refine blk_alloc ?_ _)); exact BK9002.out) hb); have n7_ := Aside0.mk (blk_below (g := gb9026) (o := .cells #[.int .i64 t9020, .int .i64 t9021, .int .i64 t9022, .slice Ao55 t9023.length co55] 28 (0, 0)) (by (with_reducible repeat (first | refine blk_drewN ?_ _ | refine blk_drew ?_ | refine blk_alloc ?_ _)); refine blk_put (cs := #[.int .i64 t9020, .int .i64 t9021, .int .i64 t9022, .slice none 0 0]) ?_ 3 _ rfl; (with_reducible repeat (first | refine blk_drewN ?_ _ | refine blk_drew ?_ | refine blk_alloc ?_ _)); refine blk_put (cs := #[.int .i64 t9020, .int .i64 t9021, .int .i64 0, .slice none 0 0]) ?_ 2 _ rfl; (with_reducible repeat (first | refine blk_drewN ?_ _ | refine blk_drew ?_ | refine blk_alloc ?_ _)); refine blk_put (cs := #[.int .i64 t9020, .int .i64 0, .int .i64 0, .slice none 0 0]) ?_ 1 _ rfl; (with_reducible repeat (first | refine blk_drewN ?_ _ | refine blk_drew ?_ | refine blk_alloc ?_ _)); refine blk_put (cs := #[.int .i64 0, .int .i64 0, .int .i64 0, .slice none 0 0]) ?_ 0 _ rfl; (with_reducible repeat (first | refine blk_drewN ?_ _ | refine blk_drew ?_ | refine blk_alloc ?_ _)); exact BK9026.out) hb); have n8_ := Aside0.mk (below_step (by repeat (first | (with_reducible first | exact HB.out | apply below_alloc | apply pw_below_drewN | apply below_drew1 | refine below_set ?_ GE9001.out | refine below_set ?_ GE9002.out | refine below_set ?_ GE9026.out) | exact HB.out)) hb); clear HO9010; clear HO9016; clear HO9019; clear HO9025; clear BK9001; clear BK9002; clear BK9026; clear HB; have HO9010 := n0_; have HO9016 := n1_; have HO9019 := n2_; have HO9025 := n3_; have HO9032 := n4_; have BK9001 := n5_; have BK9002 := n6_; have BK9026 := n7_; have HB := n8_; clear n0_ n1_ n2_ n3_ n4_ n5_ n6_ n7_ n8_; (try clear hb); (try clear hb2); (try clear hk); (try clear hi); (try clear ho0)) | ((with_reducible refine gate_dst (N := 8) rfl ?_); refine box_event ?hg (N := 8) ?hd (cs := #[.int .i64 0, .int .i64 0, .int .i64 0, .slice none 0 0]) (t := 28) ?hr ?_; (case hd => rfl); (case hg => rfl); (case hr => first | (go_simp; done) | (go_simp; rfl)); intro gb9033 hg w58 hbox hb; have n0_ := Aside0.mk (Kd.R_below (by (with_reducible repeat (first | apply Kd.R_alloc | apply Kd.R_drewN | apply Kd.R_drew)); exact HO9010.out) hb); have n1_ := Aside0.mk (Kd.R_below (by (with_reducible repeat (first | apply Kd.R_alloc | apply Kd.R_drewN | apply Kd.R_drew)); exact HO9016.out) hb); have n2_ := Aside0.mk (Kd.R_below (by (with_reducible repeat (first | apply Kd.R_alloc | apply Kd.R_drewN | apply Kd.R_drew)); exact HO9019.out) hb); have n3_ := Aside0.mk (Kd.R_below (by (with_reducible repeat (first | apply Kd.R_alloc | apply Kd.R_drewN | apply Kd.R_drew)); exact HO9025.out) hb); have n4_ := Aside0.mk (Kd.R_below (by (with_reducible repeat (first | apply Kd.R_alloc | apply Kd.R_drewN | apply Kd.R_drew)); exact HO9032.out) hb); have n5_ := Aside0.mk (blk_below (g := gb9001) (o := .cells #[.int .i64 a0_0, .int .i64 a0_1, .int .i64 a0_2, .slice A0_3 l0_3.length c0_3] 24 (0, 0)) (by (with_reducible repeat (first | refine blk_drewN ?_ _ | refine blk_drew ?_ | refine blk_alloc ?_ _)); exact BK9001.out) hb); have n6_ := Aside0.mk (blk_below (g := gb9002) (o := .cells #[.int .i64 a1_0, .int .i64 a1_1, .int .i64 a1_2, .slice A1_3 l1_3.length c1_3] 24 (0, 0)) (by (with_reducible repeat (first | refine blk_drewN ?_ _ | refine blk_drew ?_ | refine blk_alloc ?_ _)); exact BK9002.out) hb); have n7_ := Aside0.mk (blk_below (g := gb9026) (o := .cells #[.int .i64 t9020, .int .i64 t9021, .int .i64 t9022, .slice Ao55 t9023.length co55] 28 (0, 0)) (by (with_reducible repeat (first | refine blk_drewN ?_ _ | refine blk_drew ?_ | refine blk_alloc ?_ _)); exact BK9026.out) hb); have n8_ := Aside0.mk (below_step (by repeat (first | (with_reducible first | exact HB.out | apply below_alloc | apply pw_below_drewN | apply below_drew1 | refine below_set ?_ GE9001.out | refine below_set ?_ GE9002.out | refine below_set ?_ GE9026.out) | exact HB.out)) hb); have n9_ := Aside0.mk (hbox); have n10_ := Aside0.mk ((by rw [hg]; exact (below_size (by repeat (first | (with_reducible first | exact HB.out | apply below_alloc | apply pw_below_drewN | apply below_drew1 | refine below_set ?_ GE9001.out | refine below_set ?_ GE9002.out | refine below_set ?_ GE9026.out) | exact HB.out))) : w.heap.size ≤ gb9033)); have n11_ := Aside0.mk ((by rw [hg]; exact (below_size (by repeat (first | (with_reducible first | exact HB.out | apply below_alloc | apply pw_below_drewN | apply below_drew1 | refine below_set ?_ GE9001.out | refine below_set ?_ GE9002.out | refine below_set ?_ GE9026.out) | exact HB.out))) : w.heap.size ≤ gb9033)); have n12_ := Aside0.mk ((by rw [hg]; exact Nat.ne_of_lt (blk_lt (g := gb9001) (o := .cells #[.int .i64 a0_0, .int .i64 a0_1, .int .i64 a0_2, .slice A0_3 l0_3.length c0_3] 24 (0, 0)) (by (with_reducible repeat (first | refine blk_drewN ?_ _ | refine blk_drew ?_ | refine blk_alloc ?_ _)); exact BK9001.out)) : gb9001 ≠ gb9033)); have n13_ := Aside0.mk ((by rw [hg]; exact Nat.ne_of_gt (blk_lt (g := gb9001) (o := .cells #[.int .i64 a0_0, .int .i64 a0_1, .int .i64 a0_2, .slice A0_3 l0_3.length c0_3] 24 (0, 0)) (by (with_reducible repeat (first | refine blk_drewN ?_ _ | refine blk_drew ?_ | refine blk_alloc ?_ _)); exact BK9001.out)) : gb9033 ≠ gb9001)); have n14_ := Aside0.mk ((by rw [hg]; exact Nat.ne_of_lt (blk_lt (g := gb9002) (o := .cells #[.int .i64 a1_0, .int .i64 a1_1, .int .i64 a1_2, .slice A1_3 l1_3.length c1_3] 24 (0, 0)) (by (with_reducible repeat (first | refine blk_drewN ?_ _ | refine blk_drew ?_ | refine blk_alloc ?_ _)); exact BK9002.out)) : gb9002 ≠ gb9033)); have n15_ := Aside0.mk ((by rw [hg]; exact Nat.ne_of_gt (blk_lt (g := gb9002) (o := .cells #[.int .i64 a1_0, .int .i64 a1_1, .int .i64 a1_2, .slice A1_3 l1_3.length c1_3] 24 (0, 0)) (by (with_reducible repeat (first | refine blk_drewN ?_ _ | refine blk_drew ?_ | refine blk_alloc ?_ _)); exact BK9002.out)) : gb9033 ≠ gb9002)); have n16_ := Aside0.mk ((by rw [hg]; exact Nat.ne_of_lt (blk_lt (g := gb9026) (o := .cells #[.int .i64 t9020, .int .i64 t9021, .int .i64 t9022, .slice Ao55 t9023.length co55] 28 (0, 0)) (by (with_reducible repeat (first | refine blk_drewN ?_ _ | refine blk_drew ?_ | refine blk_alloc ?_ _)); exact BK9026.out)) : gb9026 ≠ gb9033)); have n17_ := Aside0.mk ((by rw [hg]; exact Nat.ne_of_gt (blk_lt (g := gb9026) (o := .cells #[.int .i64 t9020, .int .i64 t9021, .int .i64 t9022, .slice Ao55 t9023.length co55] 28 (0, 0)) (by (with_reducible repeat (first | refine blk_drewN ?_ _ | refine blk_drew ?_ | refine blk_alloc ?_ _)); exact BK9026.out)) : gb9033 ≠ gb9026)); clear HO9010; clear HO9016; clear HO9019; clear HO9025; clear HO9032; clear BK9001; clear BK9002; clear BK9026; clear HB; have HO9010 := n0_; have HO9016 := n1_; have HO9019 := n2_; have HO9025 := n3_; have HO9032 := n4_; have BK9001 := n5_; have BK9002 := n6_; have BK9026 := n7_; have HB := n8_; have BK9033 := n9_; have GW9033 := n10_; have GE9033 := n11_; have NB9001_9033 := n12_; have NB9033_9001 := n13_; have NB9002_9033 := n14_; have NB9033_9002 := n15_; have NB9026_9033 := n16_; have NB9033_9026 := n17_; clear n0_ n1_ n2_ n3_ n4_ n5_ n6_ n7_ n8_ n9_ n10_ n11_ n12_ n13_ n14_ n15_ n16_ n17_; clear hb hbox hg; have hnb59 := NB9033_9001.out; have hnc59 := NB9001_9033.out; have hnb60 := NB9033_9002.out; have hnc60 := NB9002_9033.out; have hnb61 := NB9033_9026.out; have hnc61 := NB9026_9033.out; have hcz62_0 : w58.cell? ⟨gb9033, 0, none⟩ = some (.int .i64 0) := (blk_cell BK9033.out 0).trans rfl; have hcz62_1 : w58.cell? ⟨gb9033, 1, none⟩ = some (.int .i64 0) := (blk_cell BK9033.out 1).trans rfl; have hcz62_2 : w58.cell? ⟨gb9033, 2, none⟩ = some (.int .i64 0) := (blk_cell BK9033.out 2).trans rfl; have hcz62_3 : w58.cell? ⟨gb9033, 3, none⟩ = some (.slice none 0 0) := (blk_cell BK9033.out 3).trans rfl; have hfz62_0 := blk_frozen BK9033.out 0; have hfz62_1 := blk_frozen BK9033.out 1; have hfz62_2 := blk_frozen BK9033.out 2; have hfz62_3 := blk_frozen BK9033.out 3; obtain ⟨Ao63, co63, eo63⟩ := Kd.R_slice HO9032.out; subst eo63; have hcz64_0 : w58.cell? ⟨gb9026, 0, none⟩ = some (.int .i64 t9020) := (blk_cell BK9026.out 0).trans rfl; have hcz64_1 : w58.cell? ⟨gb9026, 1, none⟩ = some (.int .i64 t9021) := (blk_cell BK9026.out 1).trans rfl; have hcz64_2 : w58.cell? ⟨gb9026, 2, none⟩ = some (.int .i64 t9022) := (blk_cell BK9026.out 2).trans rfl; have hcz64_3 : w58.cell? ⟨gb9026, 3, none⟩ = some (.slice Ao55 t9023.length co55) := (blk_cell BK9026.out 3).trans rfl; have hfz64_0 := blk_frozen BK9026.out 0; have hfz64_1 := blk_frozen BK9026.out 1; have hfz64_2 := blk_frozen BK9026.out 2; have hfz64_3 := blk_frozen BK9026.out 3) | ((with_reducible refine gate_callee (f := 33) rfl ?_); refine goesL_ (some 35) rfl rfl Try.func33 (by kernel_rfl) rfl #[.agg #[.int .i64 t9020, .int .i64 t9021, .int .i64 t9022, .slice Ao55 t9023.length co55], .agg #[.int .i64 t9027, .int .i64 t9028, .int .i64 t9029, .slice Ao63 t9030.length co63]] rfl (by (try simp only [List.map_toArray, List.map_cons, List.map_nil]); first | done | rfl | (simp only [List.length_drop, List.length_take]; rfl)) ?_; (with_reducible refine (impl_ChangedBoxes.calls t9020 t9021 t9022 _ _ t9023 t9027 t9028 t9029 _ _ t9030 t9034 _ ?side1 ?side2 ?side3 ?side4 A24.out).mono ?_); (case side1 => refine (Kd.R_reads' (e := 3) (base := w.heap.size) (ok := fun k_ => (((True ∧ some k_ ≠ (.slice Ao46 t9008.length co46 : Value).ownBlock) ∧ some k_ ≠ (.slice Ao47 t9014.length co47 : Value).ownBlock) ∧ some k_ ≠ (.slice Ao63 t9030.length co63 : Value).ownBlock)) (n := t9023.length) (c := co55) ?_).2.2; exact (by (with_reducible repeat (first | apply Kd.R_alloc | apply Kd.R_drewN | apply Kd.R_drew)); exact (Kd.R_mono (Kd.R_far (p := ⟨gb9033, 3, none⟩) (Kd.R_far (p := ⟨gb9033, 2, none⟩) (Kd.R_far (p := ⟨gb9033, 1, none⟩) (Kd.R_far (p := ⟨gb9033, 0, none⟩) (Kd.R_types HO9025.out BK9033.out (by decide)) (fun _ hk => hk.2) (.int .i64 t9027)) (fun _ hk => hk.2) (.int .i64 t9028)) (fun _ hk => hk.2) (.int .i64 t9029)) (fun _ hk => hk.2) (.slice Ao63 t9030.length co63)) (fun _ h_ => h_.1)))); (case side2 => exact (Kd.R_reads' HO9025.out).2.1); (case side3 => refine (Kd.R_reads' (e := 3) (base := w.heap.size) (ok := fun k_ => (((True ∧ some k_ ≠ (.slice Ao46 t9008.length co46 : Value).ownBlock) ∧ some k_ ≠ (.slice Ao47 t9014.length co47 : Value).ownBlock) ∧ some k_ ≠ (.slice Ao55 t9023.length co55 : Value).ownBlock)) (n := t9030.length) (c := co63) ?_).2.2; exact (by (with_reducible repeat (first | apply Kd.R_alloc | apply Kd.R_drewN | apply Kd.R_drew)); exact (Kd.R_mono (Kd.R_far (p := ⟨gb9033, 3, none⟩) (Kd.R_far (p := ⟨gb9033, 2, none⟩) (Kd.R_far (p := ⟨gb9033, 1, none⟩) (Kd.R_far (p := ⟨gb9033, 0, none⟩) (Kd.R_types HO9032.out BK9033.out (by decide)) (fun _ hk => hk.2) (.int .i64 t9027)) (fun _ hk => hk.2) (.int .i64 t9028)) (fun _ hk => hk.2) (.int .i64 t9029)) (fun _ hk => hk.2) (.slice Ao63 t9030.length co63)) (fun _ h_ => h_.1)))); (case side4 => exact (Kd.R_reads' HO9032.out).2.1); rintro e w65 ⟨v9035, rfl, ho0, hb⟩; refine ⟨_, rfl, ?_⟩; have n0_ := Aside0.mk (Kd.R_below (by (with_reducible repeat (first | apply Kd.R_alloc | apply Kd.R_drewN | apply Kd.R_drew)); exact (Kd.R_mono (Kd.R_far (p := ⟨gb9033, 3, none⟩) (Kd.R_far (p := ⟨gb9033, 2, none⟩) (Kd.R_far (p := ⟨gb9033, 1, none⟩) (Kd.R_far (p := ⟨gb9033, 0, none⟩) (Kd.R_types HO9010.out BK9033.out (by decide)) (fun _ hk => hk.2) (.int .i64 t9027)) (fun _ hk => hk.2) (.int .i64 t9028)) (fun _ hk => hk.2) (.int .i64 t9029)) (fun _ hk => hk.2) (.slice Ao63 t9030.length co63)) (fun _ h_ => h_.1))) hb); have n1_ := Aside0.mk (Kd.R_below (by (with_reducible repeat (first | apply Kd.R_alloc | apply Kd.R_drewN | apply Kd.R_drew)); exact (Kd.R_mono (Kd.R_far (p := ⟨gb9033, 3, none⟩) (Kd.R_far (p := ⟨gb9033, 2, none⟩) (Kd.R_far (p := ⟨gb9033, 1, none⟩) (Kd.R_far (p := ⟨gb9033, 0, none⟩) (Kd.R_types HO9016.out BK9033.out (by decide)) (fun _ hk => hk.2) (.int .i64 t9027)) (fun _ hk => hk.2) (.int .i64 t9028)) (fun _ hk => hk.2) (.int .i64 t9029)) (fun _ hk => hk.2) (.slice Ao63 t9030.length co63)) (fun _ h_ => h_.1))) hb); have n2_ := Aside0.mk (Kd.R_elder' (by (with_reducible repeat (first | apply Kd.R_alloc | apply Kd.R_drewN | apply Kd.R_drew)); exact (Kd.R_mono (Kd.R_far (p := ⟨gb9033, 3, none⟩) (Kd.R_far (p := ⟨gb9033, 2, none⟩) (Kd.R_far (p := ⟨gb9033, 1, none⟩) (Kd.R_far (p := ⟨gb9033, 0, none⟩) (Kd.R_types HO9019.out BK9033.out (by decide)) (fun _ hk => hk.2) (.int .i64 t9027)) (fun _ hk => hk.2) (.int .i64 t9028)) (fun _ hk => hk.2) (.int .i64 t9029)) (fun _ hk => hk.2) (.slice Ao63 t9030.length co63)) (fun _ h_ => h_.1))) (Kd.R_base ho0) hb); have n3_ := Aside0.mk (Kd.R_below (by (with_reducible repeat (first | apply Kd.R_alloc | apply Kd.R_drewN | apply Kd.R_drew)); exact (Kd.R_mono (Kd.R_far (p := ⟨gb9033, 3, none⟩) (Kd.R_far (p := ⟨gb9033, 2, none⟩) (Kd.R_far (p := ⟨gb9033, 1, none⟩) (Kd.R_far (p := ⟨gb9033, 0, none⟩) (Kd.R_types HO9025.out BK9033.out (by decide)) (fun _ hk => hk.2) (.int .i64 t9027)) (fun _ hk => hk.2) (.int .i64 t9028)) (fun _ hk => hk.2) (.int .i64 t9029)) (fun _ hk => hk.2) (.slice Ao63 t9030.length co63)) (fun _ h_ => h_.1))) hb); have n4_ := Aside0.mk (Kd.R_below (by (with_reducible repeat (first | apply Kd.R_alloc | apply Kd.R_drewN | apply Kd.R_drew)); exact (Kd.R_mono (Kd.R_far (p := ⟨gb9033, 3, none⟩) (Kd.R_far (p := ⟨gb9033, 2, none⟩) (Kd.R_far (p := ⟨gb9033, 1, none⟩) (Kd.R_far (p := ⟨gb9033, 0, none⟩) (Kd.R_types HO9032.out BK9033.out (by decide)) (fun _ hk => hk.2) (.int .i64 t9027)) (fun _ hk => hk.2) (.int .i64 t9028)) (fun _ hk => hk.2) (.int .i64 t9029)) (fun _ hk => hk.2) (.slice Ao63 t9030.length co63)) (fun _ h_ => h_.1))) hb); have n5_ := Aside0.mk (Kd.R_lower (Kd.R_new' ho0 (Kd.R_lt (by (with_reducible repeat (first | apply Kd.R_alloc | apply Kd.R_drewN | apply Kd.R_drew)); exact (Kd.R_mono (Kd.R_far (p := ⟨gb9033, 3, none⟩) (Kd.R_far (p := ⟨gb9033, 2, none⟩) (Kd.R_far (p := ⟨gb9033, 1, none⟩) (Kd.R_far (p := ⟨gb9033, 0, none⟩) (Kd.R_types HO9019.out BK9033.out (by decide)) (fun _ hk => hk.2) (.int .i64 t9027)) (fun _ hk => hk.2) (.int .i64 t9028)) (fun _ hk => hk.2) (.int .i64 t9029)) (fun _ hk => hk.2) (.slice Ao63 t9030.length co63)) (fun _ h_ => h_.1))))) (below_size (by repeat (first | (with_reducible first | exact HB.out | apply below_alloc | apply pw_below_drewN | apply below_drew1 | refine below_set ?_ GE9001.out | refine below_set ?_ GE9002.out | refine below_set ?_ GE9026.out | refine below_set ?_ GE9033.out) | exact HB.out)))); have n6_ := Aside0.mk (blk_below (g := gb9001) (o := .cells #[.int .i64 a0_0, .int .i64 a0_1, .int .i64 a0_2, .slice A0_3 l0_3.length c0_3] 24 (0, 0)) (by (with_reducible repeat (first | refine blk_drewN ?_ _ | refine blk_drew ?_ | refine blk_alloc ?_ _)); refine blk_far ?_ NB9001_9033.out _; (with_reducible repeat (first | refine blk_drewN ?_ _ | refine blk_drew ?_ | refine blk_alloc ?_ _)); refine blk_far ?_ NB9001_9033.out _; (with_reducible repeat (first | refine blk_drewN ?_ _ | refine blk_drew ?_ | refine blk_alloc ?_ _)); refine blk_far ?_ NB9001_9033.out _; (with_reducible repeat (first | refine blk_drewN ?_ _ | refine blk_drew ?_ | refine blk_alloc ?_ _)); refine blk_far ?_ NB9001_9033.out _; (with_reducible repeat (first | refine blk_drewN ?_ _ | refine blk_drew ?_ | refine blk_alloc ?_ _)); exact BK9001.out) hb); have n7_ := Aside0.mk (blk_below (g := gb9002) (o := .cells #[.int .i64 a1_0, .int .i64 a1_1, .int .i64 a1_2, .slice A1_3 l1_3.length c1_3] 24 (0, 0)) (by (with_reducible repeat (first | refine blk_drewN ?_ _ | refine blk_drew ?_ | refine blk_alloc ?_ _)); refine blk_far ?_ NB9002_9033.out _; (with_reducible repeat (first | refine blk_drewN ?_ _ | refine blk_drew ?_ | refine blk_alloc ?_ _)); refine blk_far ?_ NB9002_9033.out _; (with_reducible repeat (first | refine blk_drewN ?_ _ | refine blk_drew ?_ | refine blk_alloc ?_ _)); refine blk_far ?_ NB9002_9033.out _; (with_reducible repeat (first | refine blk_drewN ?_ _ | refine blk_drew ?_ | refine blk_alloc ?_ _)); refine blk_far ?_ NB9002_9033.out _; (with_reducible repeat (first | refine blk_drewN ?_ _ | refine blk_drew ?_ | refine blk_alloc ?_ _)); exact BK9002.out) hb); have n8_ := Aside0.mk (blk_below (g := gb9026) (o := .cells #[.int .i64 t9020, .int .i64 t9021, .int .i64 t9022, .slice Ao55 t9023.length co55] 28 (0, 0)) (by (with_reducible repeat (first | refine blk_drewN ?_ _ | refine blk_drew ?_ | refine blk_alloc ?_ _)); refine blk_far ?_ NB9026_9033.out _; (with_reducible repeat (first | refine blk_drewN ?_ _ | refine blk_drew ?_ | refine blk_alloc ?_ _)); refine blk_far ?_ NB9026_9033.out _; (with_reducible repeat (first | refine blk_drewN ?_ _ | refine blk_drew ?_ | refine blk_alloc ?_ _)); refine blk_far ?_ NB9026_9033.out _; (with_reducible repeat (first | refine blk_drewN ?_ _ | refine blk_drew ?_ | refine blk_alloc ?_ _)); refine blk_far ?_ NB9026_9033.out _; (with_reducible repeat (first | refine blk_drewN ?_ _ | refine blk_drew ?_ | refine blk_alloc ?_ _)); exact BK9026.out) hb); have n9_ := Aside0.mk (blk_below (g := gb9033) (o := .cells #[.int .i64 t9027, .int .i64 t9028, .int .i64 t9029, .slice Ao63 t9030.length co63] 28 (0, 0)) (by (with_reducible repeat (first | refine blk_drewN ?_ _ | refine blk_drew ?_ | refine blk_alloc ?_ _)); refine blk_put (cs := #[.int .i64 t9027, .int .i64 t9028, .int .i64 t9029, .slice none 0 0]) ?_ 3 _ rfl; (with_reducible repeat (first | refine blk_drewN ?_ _ | refine blk_drew ?_ | refine blk_alloc ?_ _)); refine blk_put (cs := #[.int .i64 t9027, .int .i64 t9028, .int .i64 0, .slice none 0 0]) ?_ 2 _ rfl; (with_reducible repeat (first | refine blk_drewN ?_ _ | refine blk_drew ?_ | refine blk_alloc ?_ _)); refine blk_put (cs := #[.int .i64 t9027, .int .i64 0, .int .i64 0, .slice none 0 0]) ?_ 1 _ rfl; (with_reducible repeat (first | refine blk_drewN ?_ _ | refine blk_drew ?_ | refine blk_alloc ?_ _)); refine blk_put (cs := #[.int .i64 0, .int .i64 0, .int .i64 0, .slice none 0 0]) ?_ 0 _ rfl; (with_reducible repeat (first | refine blk_drewN ?_ _ | refine blk_drew ?_ | refine blk_alloc ?_ _)); exact BK9033.out) hb); have n10_ := Aside0.mk (below_step (by repeat (first | (with_reducible first | exact HB.out | apply below_alloc | apply pw_below_drewN | apply below_drew1 | refine below_set ?_ GE9001.out | refine below_set ?_ GE9002.out | refine below_set ?_ GE9026.out | refine below_set ?_ GE9033.out) | exact HB.out)) hb); clear HO9010; clear HO9016; clear HO9019; clear HO9025; clear HO9032; clear BK9001; clear BK9002; clear BK9026; clear BK9033; clear HB; have HO9010 := n0_; have HO9016 := n1_; have HO9019 := n2_; have HO9025 := n3_; have HO9032 := n4_; have HO9036 := n5_; have BK9001 := n6_; have BK9002 := n7_; have BK9026 := n8_; have BK9033 := n9_; have HB := n10_; clear n0_ n1_ n2_ n3_ n4_ n5_ n6_ n7_ n8_ n9_ n10_; (try clear hb); (try clear hb2); (try clear hk); (try clear hi); (try clear ho0); obtain ⟨Ao66, co66, eo66⟩ := Kd.R_slice HO9036.out; subst eo66; obtain ⟨Ao67, co67, eo67⟩ := Kd.R_slice HO9019.out; subst eo67) | ((with_reducible refine gate_callee (f := 34) rfl ?_); refine goesL_ (some 38) rfl rfl Try.func34 (by kernel_rfl) rfl #[.slice Ao66 t9034.length co66, .slice Ao67 t9017.length co67] rfl (by (try simp only [List.map_toArray, List.map_cons, List.map_nil]); first | done | rfl | (simp only [List.length_drop, List.length_take]; rfl)) ?_; (with_reducible refine (laws_eqBoxS.calls k _ _ t9034 _ _ t9017 true _ ?side1 ?side2 ?side3 ?side4 A25.out).mono ?_); (case side1 => repeat (first | exact (Kd.R_reads' HO9036.out).2.2 | (with_reducible refine Kd.C_alloc ?_ _) | (with_reducible refine Kd.C_drewN ?_ _) | (with_reducible refine Kd.C_drew ?_))); (case side2 => exact (Kd.R_reads' HO9036.out).2.1); (case side3 => repeat (first | exact (Kd.R_reads' HO9019.out).2.2 | (with_reducible refine Kd.C_alloc ?_ _) | (with_reducible refine Kd.C_drewN ?_ _) | (with_reducible refine Kd.C_drew ?_))); (case side4 => exact (Kd.R_reads' HO9019.out).2.1); rintro e w68 ⟨rfl, hb⟩; refine ⟨_, rfl, ?_⟩; have n0_ := Aside0.mk (Kd.R_below (by (with_reducible repeat (first | apply Kd.R_alloc | apply Kd.R_drewN | apply Kd.R_drew)); exact HO9010.out) hb); have n1_ := Aside0.mk (Kd.R_below (by (with_reducible repeat (first | apply Kd.R_alloc | apply Kd.R_drewN | apply Kd.R_drew)); exact HO9016.out) hb); have n2_ := Aside0.mk (Kd.R_below (by (with_reducible repeat (first | apply Kd.R_alloc | apply Kd.R_drewN | apply Kd.R_drew)); exact HO9019.out) hb); have n3_ := Aside0.mk (Kd.R_below (by (with_reducible repeat (first | apply Kd.R_alloc | apply Kd.R_drewN | apply Kd.R_drew)); exact HO9025.out) hb); have n4_ := Aside0.mk (Kd.R_below (by (with_reducible repeat (first | apply Kd.R_alloc | apply Kd.R_drewN | apply Kd.R_drew)); exact HO9032.out) hb); have n5_ := Aside0.mk (Kd.R_below (by (with_reducible repeat (first | apply Kd.R_alloc | apply Kd.R_drewN | apply Kd.R_drew)); exact HO9036.out) hb); have n6_ := Aside0.mk (blk_below (g := gb9001) (o := .cells #[.int .i64 a0_0, .int .i64 a0_1, .int .i64 a0_2, .slice A0_3 l0_3.length c0_3] 24 (0, 0)) (by (with_reducible repeat (first | refine blk_drewN ?_ _ | refine blk_drew ?_ | refine blk_alloc ?_ _)); exact BK9001.out) hb); have n7_ := Aside0.mk (blk_below (g := gb9002) (o := .cells #[.int .i64 a1_0, .int .i64 a1_1, .int .i64 a1_2, .slice A1_3 l1_3.length c1_3] 24 (0, 0)) (by (with_reducible repeat (first | refine blk_drewN ?_ _ | refine blk_drew ?_ | refine blk_alloc ?_ _)); exact BK9002.out) hb); have n8_ := Aside0.mk (blk_below (g := gb9026) (o := .cells #[.int .i64 t9020, .int .i64 t9021, .int .i64 t9022, .slice Ao55 t9023.length co55] 28 (0, 0)) (by (with_reducible repeat (first | refine blk_drewN ?_ _ | refine blk_drew ?_ | refine blk_alloc ?_ _)); exact BK9026.out) hb); have n9_ := Aside0.mk (blk_below (g := gb9033) (o := .cells #[.int .i64 t9027, .int .i64 t9028, .int .i64 t9029, .slice Ao63 t9030.length co63] 28 (0, 0)) (by (with_reducible repeat (first | refine blk_drewN ?_ _ | refine blk_drew ?_ | refine blk_alloc ?_ _)); exact BK9033.out) hb); have n10_ := Aside0.mk (below_step (by repeat (first | (with_reducible first | exact HB.out | apply below_alloc | apply pw_below_drewN | apply below_drew1 | refine below_set ?_ GE9001.out | refine below_set ?_ GE9002.out | refine below_set ?_ GE9026.out | refine below_set ?_ GE9033.out) | exact HB.out)) hb); clear HO9010; clear HO9016; clear HO9019; clear HO9025; clear HO9032; clear HO9036; clear BK9001; clear BK9002; clear BK9026; clear BK9033; clear HB; have HO9010 := n0_; have HO9016 := n1_; have HO9019 := n2_; have HO9025 := n3_; have HO9032 := n4_; have HO9036 := n5_; have BK9001 := n6_; have BK9002 := n7_; have BK9026 := n8_; have BK9033 := n9_; have HB := n10_; clear n0_ n1_ n2_ n3_ n4_ n5_ n6_ n7_ n8_ n9_ n10_; (try clear hb); (try clear hb2); (try clear hk); (try clear hi)))
            have n0_ := Aside0.mk (Kd.R_drew HO9010.out)
            have n1_ := Aside0.mk (Kd.R_drew HO9016.out)
            have n2_ := Aside0.mk (Kd.R_drew HO9019.out)
            have n3_ := Aside0.mk (Kd.R_drew HO9025.out)
            have n4_ := Aside0.mk (Kd.R_drew HO9032.out)
            have n5_ := Aside0.mk (Kd.R_drew HO9036.out)
            have n6_ := Aside0.mk (blk_drew BK9001.out)
            have n7_ := Aside0.mk (blk_drew BK9002.out)
            have n8_ := Aside0.mk (blk_drew BK9026.out)
            have n9_ := Aside0.mk (blk_drew BK9033.out)
            have n10_ := Aside0.mk (below_drew1 HB.out)
            clear HO9010
            clear HO9016
            clear HO9019
            clear HO9025
            clear HO9032
            clear HO9036
            clear BK9001
            clear BK9002
            clear BK9026
            clear BK9033
            clear HB
            have HO9010 := n0_
            have HO9016 := n1_
            have HO9019 := n2_
            have HO9025 := n3_
            have HO9032 := n4_
            have HO9036 := n5_
            have BK9001 := n6_
            have BK9002 := n7_
            have BK9026 := n8_
            have BK9033 := n9_
            have HB := n10_
            clear n0_ n1_ n2_ n3_ n4_ n5_ n6_ n7_ n8_ n9_ n10_
            refine start_ (n := 5) (S := fun w' => w'.cell? ⟨gb9026, 0, none⟩ = some (.int .i64 t9020) ∧ w'.cell? ⟨gb9026, 1, none⟩ = some (.int .i64 t9021) ∧ w'.cell? ⟨gb9026, 2, none⟩ = some (.int .i64 t9022) ∧ w'.cell? ⟨gb9026, 3, none⟩ = some (.slice Ao55 t9023.length co55) ∧ w'.cell? ⟨gb9001, 0, none⟩ = some (.int .i64 a0_0) ∧ w'.cell? ⟨gb9001, 1, none⟩ = some (.int .i64 a0_1) ∧ w'.cell? ⟨gb9001, 2, none⟩ = some (.int .i64 a0_2) ∧ w'.cell? ⟨gb9001, 3, none⟩ = some (.slice A0_3 l0_3.length c0_3)) (ds := []) #[false, false, false, false, false] (by kernel_rfl) rfl rfl ⟨(blk_cell BK9026.out 0).trans rfl, (blk_cell BK9026.out 1).trans rfl, (blk_cell BK9026.out 2).trans rfl, (blk_cell BK9026.out 3).trans rfl, (blk_cell BK9001.out 0).trans rfl, (blk_cell BK9001.out 1).trans rfl, (blk_cell BK9001.out 2).trans rfl, (blk_cell BK9001.out 3).trans rfl⟩ (fun hHeld => ?_)
            generalize w68.drew = w69 at HO9010 HO9016 HO9019 HO9025 HO9032 HO9036 BK9001 BK9002 BK9026 BK9033 HB hHeld ⊢
            refine take_ (i := 0) (N := some 40) (v := ?_) (a' := ?_) #[true, false, false, false, false] rfl rfl (by kernel_rfl) (fun _ _ _ h => h) (Or.inl ⟨by rfl, ?_⟩) hHeld ?_ ?_
            rotate_left
            · rintro w' ⟨s0, s1, s2, s3, s4, s5, s6, s7⟩
              go_simp
              with_reducible rfl
            rotate_left
            · simp only [Act.put, List.setIfInBounds_toArray, List.set_cons_zero, List.set_cons_succ, i64_w, i32_w]
              rfl
            refine take_ (i := 1) (N := some 41) (v := ?_) (a' := ?_) #[true, true, false, false, false] rfl rfl (by kernel_rfl) (fun _ _ _ h => h) (Or.inl ⟨by rfl, ?_⟩) hHeld ?_ ?_
            rotate_left
            · rintro w' ⟨s0, s1, s2, s3, s4, s5, s6, s7⟩
              go_simp
              with_reducible rfl
            rotate_left
            · simp only [Act.put, List.setIfInBounds_toArray, List.set_cons_zero, List.set_cons_succ, i64_w, i32_w]
              rfl
            refine one_ (i := 2) (N := some 42) #[true, true, true, false, false] rfl rfl (by kernel_rfl) (by decide) (fun K hK => ?_)
            refine goes_ Try.func13 (by kernel_rfl) rfl #[.agg #[.int .i64 a0_0, .int .i64 a0_1, .int .i64 a0_2, .slice A0_3 l0_3.length c0_3]] (by rfl) rfl rfl (by (try simp only [List.map_toArray, List.map_cons, List.map_nil]); first | done | rfl | (simp only [List.length_drop, List.length_take]; rfl)) ?_
            with_reducible refine (laws_toImage.calls k a0_0 a0_1 a0_2 _ _ l0_3 t9038 t9039 t9040 t9041 _ ?side1 ?side2 A27.out).mono ?_
            (case side1 => repeat (first | exact (Kd.C_below HR0_3.out HB.out) | (with_reducible refine Kd.C_alloc ?_ _) | (with_reducible refine Kd.C_drewN ?_ _) | (with_reducible refine Kd.C_drew ?_)))
            (case side2 => exact HC0_3.out)
            rintro e w70 ⟨v9042, rfl, ho0, hb⟩
            refine ⟨_, rfl, ?_⟩
            have n0_ := Aside0.mk (Kd.R_elder' (by (with_reducible repeat (first | apply Kd.R_alloc | apply Kd.R_drewN | apply Kd.R_drew)); exact HO9010.out) (Kd.R_base ho0) hb)
            have n1_ := Aside0.mk (Kd.R_elder' (by (with_reducible repeat (first | apply Kd.R_alloc | apply Kd.R_drewN | apply Kd.R_drew)); exact HO9016.out) (Kd.R_base ho0) hb)
            have n2_ := Aside0.mk (Kd.R_below (by (with_reducible repeat (first | apply Kd.R_alloc | apply Kd.R_drewN | apply Kd.R_drew)); exact HO9019.out) hb)
            have n3_ := Aside0.mk (Kd.R_elder' (by (with_reducible repeat (first | apply Kd.R_alloc | apply Kd.R_drewN | apply Kd.R_drew)); exact HO9025.out) (Kd.R_base ho0) hb)
            have n4_ := Aside0.mk (Kd.R_elder' (by (with_reducible repeat (first | apply Kd.R_alloc | apply Kd.R_drewN | apply Kd.R_drew)); exact HO9032.out) (Kd.R_base ho0) hb)
            have n5_ := Aside0.mk (Kd.R_below (by (with_reducible repeat (first | apply Kd.R_alloc | apply Kd.R_drewN | apply Kd.R_drew)); exact HO9036.out) hb)
            have n6_ := Aside0.mk (Kd.R_lower (Kd.R_new' (Kd.R_new' (Kd.R_new' (Kd.R_new' ho0 (Kd.R_lt (by (with_reducible repeat (first | apply Kd.R_alloc | apply Kd.R_drewN | apply Kd.R_drew)); exact HO9010.out))) (Kd.R_lt (by (with_reducible repeat (first | apply Kd.R_alloc | apply Kd.R_drewN | apply Kd.R_drew)); exact HO9016.out))) (Kd.R_lt (by (with_reducible repeat (first | apply Kd.R_alloc | apply Kd.R_drewN | apply Kd.R_drew)); exact HO9025.out))) (Kd.R_lt (by (with_reducible repeat (first | apply Kd.R_alloc | apply Kd.R_drewN | apply Kd.R_drew)); exact HO9032.out))) (below_size (by repeat (first | (with_reducible first | exact HB.out | apply below_alloc | apply pw_below_drewN | apply below_drew1 | refine below_set ?_ GE9001.out | refine below_set ?_ GE9002.out | refine below_set ?_ GE9026.out | refine below_set ?_ GE9033.out) | exact HB.out))))
            have n7_ := Aside0.mk (blk_below (g := gb9001) (o := .cells #[.int .i64 a0_0, .int .i64 a0_1, .int .i64 a0_2, .slice A0_3 l0_3.length c0_3] 24 (0, 0)) (by (with_reducible repeat (first | refine blk_drewN ?_ _ | refine blk_drew ?_ | refine blk_alloc ?_ _)); exact BK9001.out) hb)
            have n8_ := Aside0.mk (blk_below (g := gb9002) (o := .cells #[.int .i64 a1_0, .int .i64 a1_1, .int .i64 a1_2, .slice A1_3 l1_3.length c1_3] 24 (0, 0)) (by (with_reducible repeat (first | refine blk_drewN ?_ _ | refine blk_drew ?_ | refine blk_alloc ?_ _)); exact BK9002.out) hb)
            have n9_ := Aside0.mk (blk_below (g := gb9026) (o := .cells #[.int .i64 t9020, .int .i64 t9021, .int .i64 t9022, .slice Ao55 t9023.length co55] 28 (0, 0)) (by (with_reducible repeat (first | refine blk_drewN ?_ _ | refine blk_drew ?_ | refine blk_alloc ?_ _)); exact BK9026.out) hb)
            have n10_ := Aside0.mk (blk_below (g := gb9033) (o := .cells #[.int .i64 t9027, .int .i64 t9028, .int .i64 t9029, .slice Ao63 t9030.length co63] 28 (0, 0)) (by (with_reducible repeat (first | refine blk_drewN ?_ _ | refine blk_drew ?_ | refine blk_alloc ?_ _)); exact BK9033.out) hb)
            have n11_ := Aside0.mk (below_step (by repeat (first | (with_reducible first | exact HB.out | apply below_alloc | apply pw_below_drewN | apply below_drew1 | refine below_set ?_ GE9001.out | refine below_set ?_ GE9002.out | refine below_set ?_ GE9026.out | refine below_set ?_ GE9033.out) | exact HB.out)) hb)
            clear HO9010
            clear HO9016
            clear HO9019
            clear HO9025
            clear HO9032
            clear HO9036
            clear BK9001
            clear BK9002
            clear BK9026
            clear BK9033
            clear HB
            have HO9010 := n0_
            have HO9016 := n1_
            have HO9019 := n2_
            have HO9025 := n3_
            have HO9032 := n4_
            have HO9036 := n5_
            have HO9043 := n6_
            have BK9001 := n7_
            have BK9002 := n8_
            have BK9026 := n9_
            have BK9033 := n10_
            have HB := n11_
            clear n0_ n1_ n2_ n3_ n4_ n5_ n6_ n7_ n8_ n9_ n10_ n11_
            (try clear hb)
            (try clear hb2)
            (try clear hk)
            (try clear hi)
            (try clear ho0)
            obtain ⟨Ao71, co71, eo71⟩ := Kd.R_slice HO9043.out
            (first | subst eo71 | (injection eo71 with f1_ f2_ f3_; have f4_ := f1_.symm; have f5_ := f3_.symm; clear f1_ f2_ f3_; subst f4_; subst f5_))
            refine hK.out _ _ ⟨(blk_cell BK9026.out 0).trans rfl, (blk_cell BK9026.out 1).trans rfl, (blk_cell BK9026.out 2).trans rfl, (blk_cell BK9026.out 3).trans rfl, (blk_cell BK9001.out 0).trans rfl, (blk_cell BK9001.out 1).trans rfl, (blk_cell BK9001.out 2).trans rfl, (blk_cell BK9001.out 3).trans rfl⟩ (fun hHeld => ?_)
            clear hK K
            refine norm_ (a' := ?_) ?_ ?_
            rotate_left
            · show Act.put _ (some 42) _ = _
              simp only [Act.put, List.setIfInBounds_toArray, List.set_cons_zero, List.set_cons_succ, i64_w, i32_w]
              rfl
            refine one_ (i := 3) (N := some 43) #[true, true, true, true, false] rfl rfl (by kernel_rfl) (by decide) (fun K hK => ?_)
            refine goes_ Try.func16 (by kernel_rfl) rfl #[.agg #[.int .i64 t9020, .int .i64 t9021, .int .i64 t9022, .slice Ao55 t9023.length co55], .agg #[.int .i64 t9038, .int .i64 t9039, .int .i64 t9040, .slice Ao71 t9041.length co71]] (by rfl) rfl rfl (by (try simp only [List.map_toArray, List.map_cons, List.map_nil]); first | done | rfl | (simp only [List.length_drop, List.length_take]; rfl)) ?_
            with_reducible refine (laws_eqImage.calls k t9020 t9021 t9022 _ _ t9023 t9038 t9039 t9040 _ _ t9041 true _ ?side1 ?side2 ?side3 ?side4 A28.out).mono ?_
            (case side1 => repeat (first | exact (Kd.R_reads' HO9025.out).2.2 | (with_reducible refine Kd.C_alloc ?_ _) | (with_reducible refine Kd.C_drewN ?_ _) | (with_reducible refine Kd.C_drew ?_)))
            (case side2 => exact (Kd.R_reads' HO9025.out).2.1)
            (case side3 => repeat (first | exact (Kd.R_reads' HO9043.out).2.2 | (with_reducible refine Kd.C_alloc ?_ _) | (with_reducible refine Kd.C_drewN ?_ _) | (with_reducible refine Kd.C_drew ?_)))
            (case side4 => exact (Kd.R_reads' HO9043.out).2.1)
            rintro e w72 ⟨rfl, hb⟩
            refine ⟨_, rfl, ?_⟩
            have n0_ := Aside0.mk (Kd.R_below (by (with_reducible repeat (first | apply Kd.R_alloc | apply Kd.R_drewN | apply Kd.R_drew)); exact HO9010.out) hb)
            have n1_ := Aside0.mk (Kd.R_below (by (with_reducible repeat (first | apply Kd.R_alloc | apply Kd.R_drewN | apply Kd.R_drew)); exact HO9016.out) hb)
            have n2_ := Aside0.mk (Kd.R_below (by (with_reducible repeat (first | apply Kd.R_alloc | apply Kd.R_drewN | apply Kd.R_drew)); exact HO9019.out) hb)
            have n3_ := Aside0.mk (Kd.R_below (by (with_reducible repeat (first | apply Kd.R_alloc | apply Kd.R_drewN | apply Kd.R_drew)); exact HO9025.out) hb)
            have n4_ := Aside0.mk (Kd.R_below (by (with_reducible repeat (first | apply Kd.R_alloc | apply Kd.R_drewN | apply Kd.R_drew)); exact HO9032.out) hb)
            have n5_ := Aside0.mk (Kd.R_below (by (with_reducible repeat (first | apply Kd.R_alloc | apply Kd.R_drewN | apply Kd.R_drew)); exact HO9036.out) hb)
            have n6_ := Aside0.mk (Kd.R_below (by (with_reducible repeat (first | apply Kd.R_alloc | apply Kd.R_drewN | apply Kd.R_drew)); exact HO9043.out) hb)
            have n7_ := Aside0.mk (blk_below (g := gb9001) (o := .cells #[.int .i64 a0_0, .int .i64 a0_1, .int .i64 a0_2, .slice A0_3 l0_3.length c0_3] 24 (0, 0)) (by (with_reducible repeat (first | refine blk_drewN ?_ _ | refine blk_drew ?_ | refine blk_alloc ?_ _)); exact BK9001.out) hb)
            have n8_ := Aside0.mk (blk_below (g := gb9002) (o := .cells #[.int .i64 a1_0, .int .i64 a1_1, .int .i64 a1_2, .slice A1_3 l1_3.length c1_3] 24 (0, 0)) (by (with_reducible repeat (first | refine blk_drewN ?_ _ | refine blk_drew ?_ | refine blk_alloc ?_ _)); exact BK9002.out) hb)
            have n9_ := Aside0.mk (blk_below (g := gb9026) (o := .cells #[.int .i64 t9020, .int .i64 t9021, .int .i64 t9022, .slice Ao55 t9023.length co55] 28 (0, 0)) (by (with_reducible repeat (first | refine blk_drewN ?_ _ | refine blk_drew ?_ | refine blk_alloc ?_ _)); exact BK9026.out) hb)
            have n10_ := Aside0.mk (blk_below (g := gb9033) (o := .cells #[.int .i64 t9027, .int .i64 t9028, .int .i64 t9029, .slice Ao63 t9030.length co63] 28 (0, 0)) (by (with_reducible repeat (first | refine blk_drewN ?_ _ | refine blk_drew ?_ | refine blk_alloc ?_ _)); exact BK9033.out) hb)
            have n11_ := Aside0.mk (below_step (by repeat (first | (with_reducible first | exact HB.out | apply below_alloc | apply pw_below_drewN | apply below_drew1 | refine below_set ?_ GE9001.out | refine below_set ?_ GE9002.out | refine below_set ?_ GE9026.out | refine below_set ?_ GE9033.out) | exact HB.out)) hb)
            clear HO9010
            clear HO9016
            clear HO9019
            clear HO9025
            clear HO9032
            clear HO9036
            clear HO9043
            clear BK9001
            clear BK9002
            clear BK9026
            clear BK9033
            clear HB
            have HO9010 := n0_
            have HO9016 := n1_
            have HO9019 := n2_
            have HO9025 := n3_
            have HO9032 := n4_
            have HO9036 := n5_
            have HO9043 := n6_
            have BK9001 := n7_
            have BK9002 := n8_
            have BK9026 := n9_
            have BK9033 := n10_
            have HB := n11_
            clear n0_ n1_ n2_ n3_ n4_ n5_ n6_ n7_ n8_ n9_ n10_ n11_
            (try clear hb)
            (try clear hb2)
            (try clear hk)
            (try clear hi)
            refine hK.out _ _ ⟨(blk_cell BK9026.out 0).trans rfl, (blk_cell BK9026.out 1).trans rfl, (blk_cell BK9026.out 2).trans rfl, (blk_cell BK9026.out 3).trans rfl, (blk_cell BK9001.out 0).trans rfl, (blk_cell BK9001.out 1).trans rfl, (blk_cell BK9001.out 2).trans rfl, (blk_cell BK9001.out 3).trans rfl⟩ (fun hHeld => ?_)
            clear hK K
            refine norm_ (a' := ?_) ?_ ?_
            rotate_left
            · show Act.put _ (some 43) _ = _
              simp only [Act.put, List.setIfInBounds_toArray, List.set_cons_zero, List.set_cons_succ, i64_w, i32_w]
              rfl
            refine pure_ (i := 4) (N := some 44) (v := ?_) (a' := ?_) #[true, true, true, true, true] rfl rfl (by kernel_rfl) (fun _ _ _ h => h) (Or.inl ⟨by rfl, ?_⟩) ?_ ?_
            rotate_left
            · intro w'
              go_simp
              with_reducible rfl
            rotate_left
            · simp only [Act.put, List.setIfInBounds_toArray, List.set_cons_zero, List.set_cons_succ, i64_w, i32_w]
              rfl
            refine done_ (by kernel_rfl) ?_
            try go_wp2
            have n0_ := Aside0.mk (Kd.R_drew HO9010.out)
            have n1_ := Aside0.mk (Kd.R_drew HO9016.out)
            have n2_ := Aside0.mk (Kd.R_drew HO9019.out)
            have n3_ := Aside0.mk (Kd.R_drew HO9025.out)
            have n4_ := Aside0.mk (Kd.R_drew HO9032.out)
            have n5_ := Aside0.mk (Kd.R_drew HO9036.out)
            have n6_ := Aside0.mk (Kd.R_drew HO9043.out)
            have n7_ := Aside0.mk (blk_drew BK9001.out)
            have n8_ := Aside0.mk (blk_drew BK9002.out)
            have n9_ := Aside0.mk (blk_drew BK9026.out)
            have n10_ := Aside0.mk (blk_drew BK9033.out)
            have n11_ := Aside0.mk (below_drew1 HB.out)
            clear HO9010
            clear HO9016
            clear HO9019
            clear HO9025
            clear HO9032
            clear HO9036
            clear HO9043
            clear BK9001
            clear BK9002
            clear BK9026
            clear BK9033
            clear HB
            have HO9010 := n0_
            have HO9016 := n1_
            have HO9019 := n2_
            have HO9025 := n3_
            have HO9032 := n4_
            have HO9036 := n5_
            have HO9043 := n6_
            have BK9001 := n7_
            have BK9002 := n8_
            have BK9026 := n9_
            have BK9033 := n10_
            have HB := n11_
            clear n0_ n1_ n2_ n3_ n4_ n5_ n6_ n7_ n8_ n9_ n10_ n11_
            refine start_ (n := 5) (S := fun w' => w'.cell? ⟨gb9033, 0, none⟩ = some (.int .i64 t9027) ∧ w'.cell? ⟨gb9033, 1, none⟩ = some (.int .i64 t9028) ∧ w'.cell? ⟨gb9033, 2, none⟩ = some (.int .i64 t9029) ∧ w'.cell? ⟨gb9033, 3, none⟩ = some (.slice Ao63 t9030.length co63) ∧ w'.cell? ⟨gb9002, 0, none⟩ = some (.int .i64 a1_0) ∧ w'.cell? ⟨gb9002, 1, none⟩ = some (.int .i64 a1_1) ∧ w'.cell? ⟨gb9002, 2, none⟩ = some (.int .i64 a1_2) ∧ w'.cell? ⟨gb9002, 3, none⟩ = some (.slice A1_3 l1_3.length c1_3)) (ds := []) #[false, false, false, false, false] (by kernel_rfl) rfl rfl ⟨(blk_cell BK9033.out 0).trans rfl, (blk_cell BK9033.out 1).trans rfl, (blk_cell BK9033.out 2).trans rfl, (blk_cell BK9033.out 3).trans rfl, (blk_cell BK9002.out 0).trans rfl, (blk_cell BK9002.out 1).trans rfl, (blk_cell BK9002.out 2).trans rfl, (blk_cell BK9002.out 3).trans rfl⟩ (fun hHeld => ?_)
            generalize w72.drew = w73 at HO9010 HO9016 HO9019 HO9025 HO9032 HO9036 HO9043 BK9001 BK9002 BK9026 BK9033 HB hHeld ⊢
            refine take_ (i := 0) (N := some 45) (v := ?_) (a' := ?_) #[true, false, false, false, false] rfl rfl (by kernel_rfl) (fun _ _ _ h => h) (Or.inl ⟨by rfl, ?_⟩) hHeld ?_ ?_
            rotate_left
            · rintro w' ⟨s0, s1, s2, s3, s4, s5, s6, s7⟩
              go_simp
              with_reducible rfl
            rotate_left
            · simp only [Act.put, List.setIfInBounds_toArray, List.set_cons_zero, List.set_cons_succ, i64_w, i32_w]
              rfl
            refine take_ (i := 1) (N := some 46) (v := ?_) (a' := ?_) #[true, true, false, false, false] rfl rfl (by kernel_rfl) (fun _ _ _ h => h) (Or.inl ⟨by rfl, ?_⟩) hHeld ?_ ?_
            rotate_left
            · rintro w' ⟨s0, s1, s2, s3, s4, s5, s6, s7⟩
              go_simp
              with_reducible rfl
            rotate_left
            · simp only [Act.put, List.setIfInBounds_toArray, List.set_cons_zero, List.set_cons_succ, i64_w, i32_w]
              rfl
            refine one_ (i := 2) (N := some 47) #[true, true, true, false, false] rfl rfl (by kernel_rfl) (by decide) (fun K hK => ?_)
            refine goes_ Try.func13 (by kernel_rfl) rfl #[.agg #[.int .i64 a1_0, .int .i64 a1_1, .int .i64 a1_2, .slice A1_3 l1_3.length c1_3]] (by rfl) rfl rfl (by (try simp only [List.map_toArray, List.map_cons, List.map_nil]); first | done | rfl | (simp only [List.length_drop, List.length_take]; rfl)) ?_
            with_reducible refine (laws_toImage.calls k a1_0 a1_1 a1_2 _ _ l1_3 t9045 t9046 t9047 t9048 _ ?side1 ?side2 A30.out).mono ?_
            (case side1 => repeat (first | exact (Kd.C_below HR1_3.out HB.out) | (with_reducible refine Kd.C_alloc ?_ _) | (with_reducible refine Kd.C_drewN ?_ _) | (with_reducible refine Kd.C_drew ?_)))
            (case side2 => exact HC1_3.out)
            rintro e w74 ⟨v9049, rfl, ho0, hb⟩
            refine ⟨_, rfl, ?_⟩
            have n0_ := Aside0.mk (Kd.R_elder' (by (with_reducible repeat (first | apply Kd.R_alloc | apply Kd.R_drewN | apply Kd.R_drew)); exact HO9010.out) (Kd.R_base ho0) hb)
            have n1_ := Aside0.mk (Kd.R_elder' (by (with_reducible repeat (first | apply Kd.R_alloc | apply Kd.R_drewN | apply Kd.R_drew)); exact HO9016.out) (Kd.R_base ho0) hb)
            have n2_ := Aside0.mk (Kd.R_below (by (with_reducible repeat (first | apply Kd.R_alloc | apply Kd.R_drewN | apply Kd.R_drew)); exact HO9019.out) hb)
            have n3_ := Aside0.mk (Kd.R_elder' (by (with_reducible repeat (first | apply Kd.R_alloc | apply Kd.R_drewN | apply Kd.R_drew)); exact HO9025.out) (Kd.R_base ho0) hb)
            have n4_ := Aside0.mk (Kd.R_elder' (by (with_reducible repeat (first | apply Kd.R_alloc | apply Kd.R_drewN | apply Kd.R_drew)); exact HO9032.out) (Kd.R_base ho0) hb)
            have n5_ := Aside0.mk (Kd.R_below (by (with_reducible repeat (first | apply Kd.R_alloc | apply Kd.R_drewN | apply Kd.R_drew)); exact HO9036.out) hb)
            have n6_ := Aside0.mk (Kd.R_elder' (by (with_reducible repeat (first | apply Kd.R_alloc | apply Kd.R_drewN | apply Kd.R_drew)); exact HO9043.out) (Kd.R_base ho0) hb)
            have n7_ := Aside0.mk (Kd.R_lower (Kd.R_new' (Kd.R_new' (Kd.R_new' (Kd.R_new' (Kd.R_new' ho0 (Kd.R_lt (by (with_reducible repeat (first | apply Kd.R_alloc | apply Kd.R_drewN | apply Kd.R_drew)); exact HO9010.out))) (Kd.R_lt (by (with_reducible repeat (first | apply Kd.R_alloc | apply Kd.R_drewN | apply Kd.R_drew)); exact HO9016.out))) (Kd.R_lt (by (with_reducible repeat (first | apply Kd.R_alloc | apply Kd.R_drewN | apply Kd.R_drew)); exact HO9025.out))) (Kd.R_lt (by (with_reducible repeat (first | apply Kd.R_alloc | apply Kd.R_drewN | apply Kd.R_drew)); exact HO9032.out))) (Kd.R_lt (by (with_reducible repeat (first | apply Kd.R_alloc | apply Kd.R_drewN | apply Kd.R_drew)); exact HO9043.out))) (below_size (by repeat (first | (with_reducible first | exact HB.out | apply below_alloc | apply pw_below_drewN | apply below_drew1 | refine below_set ?_ GE9001.out | refine below_set ?_ GE9002.out | refine below_set ?_ GE9026.out | refine below_set ?_ GE9033.out) | exact HB.out))))
            have n8_ := Aside0.mk (blk_below (g := gb9001) (o := .cells #[.int .i64 a0_0, .int .i64 a0_1, .int .i64 a0_2, .slice A0_3 l0_3.length c0_3] 24 (0, 0)) (by (with_reducible repeat (first | refine blk_drewN ?_ _ | refine blk_drew ?_ | refine blk_alloc ?_ _)); exact BK9001.out) hb)
            have n9_ := Aside0.mk (blk_below (g := gb9002) (o := .cells #[.int .i64 a1_0, .int .i64 a1_1, .int .i64 a1_2, .slice A1_3 l1_3.length c1_3] 24 (0, 0)) (by (with_reducible repeat (first | refine blk_drewN ?_ _ | refine blk_drew ?_ | refine blk_alloc ?_ _)); exact BK9002.out) hb)
            have n10_ := Aside0.mk (blk_below (g := gb9026) (o := .cells #[.int .i64 t9020, .int .i64 t9021, .int .i64 t9022, .slice Ao55 t9023.length co55] 28 (0, 0)) (by (with_reducible repeat (first | refine blk_drewN ?_ _ | refine blk_drew ?_ | refine blk_alloc ?_ _)); exact BK9026.out) hb)
            have n11_ := Aside0.mk (blk_below (g := gb9033) (o := .cells #[.int .i64 t9027, .int .i64 t9028, .int .i64 t9029, .slice Ao63 t9030.length co63] 28 (0, 0)) (by (with_reducible repeat (first | refine blk_drewN ?_ _ | refine blk_drew ?_ | refine blk_alloc ?_ _)); exact BK9033.out) hb)
            have n12_ := Aside0.mk (below_step (by repeat (first | (with_reducible first | exact HB.out | apply below_alloc | apply pw_below_drewN | apply below_drew1 | refine below_set ?_ GE9001.out | refine below_set ?_ GE9002.out | refine below_set ?_ GE9026.out | refine below_set ?_ GE9033.out) | exact HB.out)) hb)
            clear HO9010
            clear HO9016
            clear HO9019
            clear HO9025
            clear HO9032
            clear HO9036
            clear HO9043
            clear BK9001
            clear BK9002
            clear BK9026
            clear BK9033
            clear HB
            have HO9010 := n0_
            have HO9016 := n1_
            have HO9019 := n2_
            have HO9025 := n3_
            have HO9032 := n4_
            have HO9036 := n5_
            have HO9043 := n6_
            have HO9050 := n7_
            have BK9001 := n8_
            have BK9002 := n9_
            have BK9026 := n10_
            have BK9033 := n11_
            have HB := n12_
            clear n0_ n1_ n2_ n3_ n4_ n5_ n6_ n7_ n8_ n9_ n10_ n11_ n12_
            (try clear hb)
            (try clear hb2)
            (try clear hk)
            (try clear hi)
            (try clear ho0)
            obtain ⟨Ao75, co75, eo75⟩ := Kd.R_slice HO9050.out
            (first | subst eo75 | (injection eo75 with f1_ f2_ f3_; have f4_ := f1_.symm; have f5_ := f3_.symm; clear f1_ f2_ f3_; subst f4_; subst f5_))
            refine hK.out _ _ ⟨(blk_cell BK9033.out 0).trans rfl, (blk_cell BK9033.out 1).trans rfl, (blk_cell BK9033.out 2).trans rfl, (blk_cell BK9033.out 3).trans rfl, (blk_cell BK9002.out 0).trans rfl, (blk_cell BK9002.out 1).trans rfl, (blk_cell BK9002.out 2).trans rfl, (blk_cell BK9002.out 3).trans rfl⟩ (fun hHeld => ?_)
            clear hK K
            refine norm_ (a' := ?_) ?_ ?_
            rotate_left
            · show Act.put _ (some 47) _ = _
              simp only [Act.put, List.setIfInBounds_toArray, List.set_cons_zero, List.set_cons_succ, i64_w, i32_w]
              rfl
            refine one_ (i := 3) (N := some 48) #[true, true, true, true, false] rfl rfl (by kernel_rfl) (by decide) (fun K hK => ?_)
            refine goes_ Try.func16 (by kernel_rfl) rfl #[.agg #[.int .i64 t9027, .int .i64 t9028, .int .i64 t9029, .slice Ao63 t9030.length co63], .agg #[.int .i64 t9045, .int .i64 t9046, .int .i64 t9047, .slice Ao75 t9048.length co75]] (by rfl) rfl rfl (by (try simp only [List.map_toArray, List.map_cons, List.map_nil]); first | done | rfl | (simp only [List.length_drop, List.length_take]; rfl)) ?_
            with_reducible refine (laws_eqImage.calls k t9027 t9028 t9029 _ _ t9030 t9045 t9046 t9047 _ _ t9048 true _ ?side1 ?side2 ?side3 ?side4 A31.out).mono ?_
            (case side1 => repeat (first | exact (Kd.R_reads' HO9032.out).2.2 | (with_reducible refine Kd.C_alloc ?_ _) | (with_reducible refine Kd.C_drewN ?_ _) | (with_reducible refine Kd.C_drew ?_)))
            (case side2 => exact (Kd.R_reads' HO9032.out).2.1)
            (case side3 => repeat (first | exact (Kd.R_reads' HO9050.out).2.2 | (with_reducible refine Kd.C_alloc ?_ _) | (with_reducible refine Kd.C_drewN ?_ _) | (with_reducible refine Kd.C_drew ?_)))
            (case side4 => exact (Kd.R_reads' HO9050.out).2.1)
            rintro e w76 ⟨rfl, hb⟩
            refine ⟨_, rfl, ?_⟩
            have n0_ := Aside0.mk (Kd.R_below (by (with_reducible repeat (first | apply Kd.R_alloc | apply Kd.R_drewN | apply Kd.R_drew)); exact HO9010.out) hb)
            have n1_ := Aside0.mk (Kd.R_below (by (with_reducible repeat (first | apply Kd.R_alloc | apply Kd.R_drewN | apply Kd.R_drew)); exact HO9016.out) hb)
            have n2_ := Aside0.mk (Kd.R_below (by (with_reducible repeat (first | apply Kd.R_alloc | apply Kd.R_drewN | apply Kd.R_drew)); exact HO9019.out) hb)
            have n3_ := Aside0.mk (Kd.R_below (by (with_reducible repeat (first | apply Kd.R_alloc | apply Kd.R_drewN | apply Kd.R_drew)); exact HO9025.out) hb)
            have n4_ := Aside0.mk (Kd.R_below (by (with_reducible repeat (first | apply Kd.R_alloc | apply Kd.R_drewN | apply Kd.R_drew)); exact HO9032.out) hb)
            have n5_ := Aside0.mk (Kd.R_below (by (with_reducible repeat (first | apply Kd.R_alloc | apply Kd.R_drewN | apply Kd.R_drew)); exact HO9036.out) hb)
            have n6_ := Aside0.mk (Kd.R_below (by (with_reducible repeat (first | apply Kd.R_alloc | apply Kd.R_drewN | apply Kd.R_drew)); exact HO9043.out) hb)
            have n7_ := Aside0.mk (Kd.R_below (by (with_reducible repeat (first | apply Kd.R_alloc | apply Kd.R_drewN | apply Kd.R_drew)); exact HO9050.out) hb)
            have n8_ := Aside0.mk (blk_below (g := gb9001) (o := .cells #[.int .i64 a0_0, .int .i64 a0_1, .int .i64 a0_2, .slice A0_3 l0_3.length c0_3] 24 (0, 0)) (by (with_reducible repeat (first | refine blk_drewN ?_ _ | refine blk_drew ?_ | refine blk_alloc ?_ _)); exact BK9001.out) hb)
            have n9_ := Aside0.mk (blk_below (g := gb9002) (o := .cells #[.int .i64 a1_0, .int .i64 a1_1, .int .i64 a1_2, .slice A1_3 l1_3.length c1_3] 24 (0, 0)) (by (with_reducible repeat (first | refine blk_drewN ?_ _ | refine blk_drew ?_ | refine blk_alloc ?_ _)); exact BK9002.out) hb)
            have n10_ := Aside0.mk (blk_below (g := gb9026) (o := .cells #[.int .i64 t9020, .int .i64 t9021, .int .i64 t9022, .slice Ao55 t9023.length co55] 28 (0, 0)) (by (with_reducible repeat (first | refine blk_drewN ?_ _ | refine blk_drew ?_ | refine blk_alloc ?_ _)); exact BK9026.out) hb)
            have n11_ := Aside0.mk (blk_below (g := gb9033) (o := .cells #[.int .i64 t9027, .int .i64 t9028, .int .i64 t9029, .slice Ao63 t9030.length co63] 28 (0, 0)) (by (with_reducible repeat (first | refine blk_drewN ?_ _ | refine blk_drew ?_ | refine blk_alloc ?_ _)); exact BK9033.out) hb)
            have n12_ := Aside0.mk (below_step (by repeat (first | (with_reducible first | exact HB.out | apply below_alloc | apply pw_below_drewN | apply below_drew1 | refine below_set ?_ GE9001.out | refine below_set ?_ GE9002.out | refine below_set ?_ GE9026.out | refine below_set ?_ GE9033.out) | exact HB.out)) hb)
            clear HO9010
            clear HO9016
            clear HO9019
            clear HO9025
            clear HO9032
            clear HO9036
            clear HO9043
            clear HO9050
            clear BK9001
            clear BK9002
            clear BK9026
            clear BK9033
            clear HB
            have HO9010 := n0_
            have HO9016 := n1_
            have HO9019 := n2_
            have HO9025 := n3_
            have HO9032 := n4_
            have HO9036 := n5_
            have HO9043 := n6_
            have HO9050 := n7_
            have BK9001 := n8_
            have BK9002 := n9_
            have BK9026 := n10_
            have BK9033 := n11_
            have HB := n12_
            clear n0_ n1_ n2_ n3_ n4_ n5_ n6_ n7_ n8_ n9_ n10_ n11_ n12_
            (try clear hb)
            (try clear hb2)
            (try clear hk)
            (try clear hi)
            refine hK.out _ _ ⟨(blk_cell BK9033.out 0).trans rfl, (blk_cell BK9033.out 1).trans rfl, (blk_cell BK9033.out 2).trans rfl, (blk_cell BK9033.out 3).trans rfl, (blk_cell BK9002.out 0).trans rfl, (blk_cell BK9002.out 1).trans rfl, (blk_cell BK9002.out 2).trans rfl, (blk_cell BK9002.out 3).trans rfl⟩ (fun hHeld => ?_)
            clear hK K
            refine norm_ (a' := ?_) ?_ ?_
            rotate_left
            · show Act.put _ (some 48) _ = _
              simp only [Act.put, List.setIfInBounds_toArray, List.set_cons_zero, List.set_cons_succ, i64_w, i32_w]
              rfl
            refine pure_ (i := 4) (N := some 49) (v := ?_) (a' := ?_) #[true, true, true, true, true] rfl rfl (by kernel_rfl) (fun _ _ _ h => h) (Or.inl ⟨by rfl, ?_⟩) ?_ ?_
            rotate_left
            · intro w'
              go_simp
              with_reducible rfl
            rotate_left
            · simp only [Act.put, List.setIfInBounds_toArray, List.set_cons_zero, List.set_cons_succ, i64_w, i32_w]
              rfl
            refine done_ (by kernel_rfl) ?_
            have hcz77_0 : w76.cell? ⟨gb9026, 0, none⟩ = some (.int .i64 t9020) := (blk_cell BK9026.out 0).trans rfl
            have hcz77_1 : w76.cell? ⟨gb9026, 1, none⟩ = some (.int .i64 t9021) := (blk_cell BK9026.out 1).trans rfl
            have hcz77_2 : w76.cell? ⟨gb9026, 2, none⟩ = some (.int .i64 t9022) := (blk_cell BK9026.out 2).trans rfl
            have hcz77_3 : w76.cell? ⟨gb9026, 3, none⟩ = some (.slice Ao55 t9023.length co55) := (blk_cell BK9026.out 3).trans rfl
            have hfz77_0 := blk_frozen BK9026.out 0
            have hfz77_1 := blk_frozen BK9026.out 1
            have hfz77_2 := blk_frozen BK9026.out 2
            have hfz77_3 := blk_frozen BK9026.out 3
            go_upto_region 21 with (first | ((with_reducible refine gate_callee (f := 17) rfl ?_); refine goesL_ (some 52) rfl rfl Try.func17 (by kernel_rfl) rfl #[.agg #[.int .i64 t9020, .int .i64 t9021, .int .i64 t9022, .slice Ao55 t9023.length co55], .int .i64 1] rfl (by (try simp only [List.map_toArray, List.map_cons, List.map_nil]); first | done | rfl | (simp only [List.length_drop, List.length_take]; rfl)) ?_; (with_reducible refine (laws_markImage.calls k t9020 t9021 t9022 (fun k_ => some k_ = (.slice Ao55 t9023.length co55 : Value).ownBlock) (.slice Ao55 t9023.length co55) t9023 1 t9052 t9053 w _ ?side1 ?side2 A33.out).mono ?_); (case side1 => repeat (first | (with_reducible first | exact HB.out | apply below_alloc | apply pw_below_drewN | apply below_drew1 | refine below_set ?_ GE9001.out | refine below_set ?_ GE9002.out | refine below_set ?_ GE9026.out | refine below_set ?_ GE9033.out) | exact HB.out)); (case side2 => exact Kd.R_tight rfl HO9025.out); rintro e w78 ⟨rfl, hy0, hb, hkp⟩; refine ⟨_, rfl, ?_⟩; have n0_ := Aside0.mk (blk_kept (by (with_reducible repeat (first | refine blk_drewN ?_ _ | refine blk_drew ?_ | refine blk_alloc ?_ _)); exact BK9001.out) hkp (fun hs_ => (fun e_ => (Kd.R_ne HO9025.out BK9001.out (by decide)) e_) hs_)); have n1_ := Aside0.mk (blk_kept (by (with_reducible repeat (first | refine blk_drewN ?_ _ | refine blk_drew ?_ | refine blk_alloc ?_ _)); exact BK9002.out) hkp (fun hs_ => (fun e_ => (Kd.R_ne HO9025.out BK9002.out (by decide)) e_) hs_)); have n2_ := Aside0.mk (Kd.R_mono (ok' := fun k_ => some k_ ≠ (.slice Ao47 t9014.length co47 : Value).ownBlock ∧ some k_ ≠ (.slice Ao55 t9023.length co55 : Value).ownBlock ∧ some k_ ≠ (.slice Ao63 t9030.length co63 : Value).ownBlock ∧ some k_ ≠ (.slice Ao71 t9041.length co71 : Value).ownBlock ∧ some k_ ≠ (.slice Ao75 t9048.length co75 : Value).ownBlock) (Kd.R_keptB (HO9010.out) hkp (fun k_ hk_ hs_ => (hk_.1.1.1.2) hs_)) (fun k_ hk_ => ⟨hk_.1.1.1.1.1.2, hk_.1.1.1.1.2, hk_.1.1.1.2, hk_.1.1.2, hk_.1.2⟩)); have n3_ := Aside0.mk (Kd.R_mono (ok' := fun k_ => some k_ ≠ (.slice Ao46 t9008.length co46 : Value).ownBlock ∧ some k_ ≠ (.slice Ao55 t9023.length co55 : Value).ownBlock ∧ some k_ ≠ (.slice Ao63 t9030.length co63 : Value).ownBlock ∧ some k_ ≠ (.slice Ao71 t9041.length co71 : Value).ownBlock ∧ some k_ ≠ (.slice Ao75 t9048.length co75 : Value).ownBlock) (Kd.R_keptB (HO9016.out) hkp (fun k_ hk_ hs_ => (hk_.1.1.1.2) hs_)) (fun k_ hk_ => ⟨hk_.1.1.1.1.1.2, hk_.1.1.1.1.2, hk_.1.1.1.2, hk_.1.1.2, hk_.1.2⟩)); have n4_ := Aside0.mk (Kd.R_mono (ok' := fun k_ => some k_ ≠ (.slice Ao66 t9034.length co66 : Value).ownBlock) (Kd.R_keptB ((Kd.R_apart' HO9019.out (Kd.R_typed HO9025.out) (by decide))) hkp (fun k_ hk_ hs_ => (hk_.2) hs_)) (fun k_ hk_ => hk_.1.1.2)); have n5_ := Aside0.mk (Kd.R_reok rfl hy0 (fun k_ e_ => HO9025.out.1 k_ e_)); have n6_ := Aside0.mk (blk_kept (by (with_reducible repeat (first | refine blk_drewN ?_ _ | refine blk_drew ?_ | refine blk_alloc ?_ _)); exact BK9026.out) hkp (fun hs_ => (fun e_ => (Kd.R_ne HO9025.out BK9026.out (by decide)) e_) hs_)); have n7_ := Aside0.mk (Kd.R_mono (ok' := fun k_ => some k_ ≠ (.slice Ao46 t9008.length co46 : Value).ownBlock ∧ some k_ ≠ (.slice Ao47 t9014.length co47 : Value).ownBlock ∧ some k_ ≠ (.slice Ao55 t9023.length co55 : Value).ownBlock ∧ some k_ ≠ (.slice Ao71 t9041.length co71 : Value).ownBlock ∧ some k_ ≠ (.slice Ao75 t9048.length co75 : Value).ownBlock) (Kd.R_keptB (HO9032.out) hkp (fun k_ hk_ hs_ => (hk_.1.1.2) hs_)) (fun k_ hk_ => ⟨hk_.1.1.1.1.1.2, hk_.1.1.1.1.2, hk_.1.1.1.2, hk_.1.1.2, hk_.1.2⟩)); have n8_ := Aside0.mk (blk_kept (by (with_reducible repeat (first | refine blk_drewN ?_ _ | refine blk_drew ?_ | refine blk_alloc ?_ _)); exact BK9033.out) hkp (fun hs_ => (fun e_ => (Kd.R_ne HO9025.out BK9033.out (by decide)) e_) hs_)); have n9_ := Aside0.mk (Kd.R_mono (ok' := fun k_ => some k_ ≠ (.slice Ao67 t9017.length co67 : Value).ownBlock) (Kd.R_keptB ((Kd.R_apart' HO9036.out (Kd.R_typed HO9025.out) (by decide))) hkp (fun k_ hk_ hs_ => (hk_.2) hs_)) (fun k_ hk_ => hk_.1.1.2)); have n10_ := Aside0.mk (Kd.R_mono (ok' := fun k_ => some k_ ≠ (.slice Ao46 t9008.length co46 : Value).ownBlock ∧ some k_ ≠ (.slice Ao47 t9014.length co47 : Value).ownBlock ∧ some k_ ≠ (.slice Ao55 t9023.length co55 : Value).ownBlock ∧ some k_ ≠ (.slice Ao63 t9030.length co63 : Value).ownBlock ∧ some k_ ≠ (.slice Ao75 t9048.length co75 : Value).ownBlock) (Kd.R_keptB (HO9043.out) hkp (fun k_ hk_ hs_ => (hk_.1.1.2) hs_)) (fun k_ hk_ => ⟨hk_.1.1.1.1.1.2, hk_.1.1.1.1.2, hk_.1.1.1.2, hk_.1.1.2, hk_.1.2⟩)); have n11_ := Aside0.mk (Kd.R_mono (ok' := fun k_ => some k_ ≠ (.slice Ao46 t9008.length co46 : Value).ownBlock ∧ some k_ ≠ (.slice Ao47 t9014.length co47 : Value).ownBlock ∧ some k_ ≠ (.slice Ao55 t9023.length co55 : Value).ownBlock ∧ some k_ ≠ (.slice Ao63 t9030.length co63 : Value).ownBlock ∧ some k_ ≠ (.slice Ao71 t9041.length co71 : Value).ownBlock) (Kd.R_keptB (HO9050.out) hkp (fun k_ hk_ hs_ => (hk_.1.1.2) hs_)) (fun k_ hk_ => ⟨hk_.1.1.1.1.1.2, hk_.1.1.1.1.2, hk_.1.1.1.2, hk_.1.1.2, hk_.1.2⟩)); have n12_ := Aside0.mk (hb); clear BK9001; clear BK9002; clear HO9010; clear HO9016; clear HO9019; clear HO9025; clear BK9026; clear HO9032; clear BK9033; clear HO9036; clear HO9043; clear HO9050; clear HB; have BK9001 := n0_; have BK9002 := n1_; have HO9010 := n2_; have HO9016 := n3_; have HO9019 := n4_; have HO9025 := n5_; have BK9026 := n6_; have HO9032 := n7_; have BK9033 := n8_; have HO9036 := n9_; have HO9043 := n10_; have HO9050 := n11_; have HB := n12_; clear n0_ n1_ n2_ n3_ n4_ n5_ n6_ n7_ n8_ n9_ n10_ n11_ n12_; (try clear hb); (try clear hkp); (try clear hy0); have hcz79_0 : w78.cell? ⟨gb9033, 0, none⟩ = some (.int .i64 t9027) := (blk_cell BK9033.out 0).trans rfl; have hcz79_1 : w78.cell? ⟨gb9033, 1, none⟩ = some (.int .i64 t9028) := (blk_cell BK9033.out 1).trans rfl; have hcz79_2 : w78.cell? ⟨gb9033, 2, none⟩ = some (.int .i64 t9029) := (blk_cell BK9033.out 2).trans rfl; have hcz79_3 : w78.cell? ⟨gb9033, 3, none⟩ = some (.slice Ao63 t9030.length co63) := (blk_cell BK9033.out 3).trans rfl; have hfz79_0 := blk_frozen BK9033.out 0; have hfz79_1 := blk_frozen BK9033.out 1; have hfz79_2 := blk_frozen BK9033.out 2; have hfz79_3 := blk_frozen BK9033.out 3) | ((with_reducible refine gate_callee (f := 17) rfl ?_); refine goesL_ (some 55) rfl rfl Try.func17 (by kernel_rfl) rfl #[.agg #[.int .i64 t9027, .int .i64 t9028, .int .i64 t9029, .slice Ao63 t9030.length co63], .int .i64 t9052] rfl (by (try simp only [List.map_toArray, List.map_cons, List.map_nil]); first | done | rfl | (simp only [List.length_drop, List.length_take]; rfl)) ?_; (with_reducible refine (laws_markImage.calls k t9027 t9028 t9029 (fun k_ => some k_ = (.slice Ao63 t9030.length co63 : Value).ownBlock) (.slice Ao63 t9030.length co63) t9030 t9052 t9054 t9055 w _ ?side1 ?side2 A34.out).mono ?_); (case side1 => repeat (first | (with_reducible first | exact HB.out | apply below_alloc | apply pw_below_drewN | apply below_drew1 | refine below_set ?_ GE9001.out | refine below_set ?_ GE9002.out | refine below_set ?_ GE9026.out | refine below_set ?_ GE9033.out) | exact HB.out)); (case side2 => exact Kd.R_tight rfl HO9032.out); rintro e w80 ⟨rfl, hy0, hb, hkp⟩; refine ⟨_, rfl, ?_⟩; have n0_ := Aside0.mk (blk_kept (by (with_reducible repeat (first | refine blk_drewN ?_ _ | refine blk_drew ?_ | refine blk_alloc ?_ _)); exact BK9001.out) hkp (fun hs_ => (fun e_ => (Kd.R_ne HO9032.out BK9001.out (by decide)) e_) hs_)); have n1_ := Aside0.mk (blk_kept (by (with_reducible repeat (first | refine blk_drewN ?_ _ | refine blk_drew ?_ | refine blk_alloc ?_ _)); exact BK9002.out) hkp (fun hs_ => (fun e_ => (Kd.R_ne HO9032.out BK9002.out (by decide)) e_) hs_)); have n2_ := Aside0.mk (Kd.R_mono (ok' := fun k_ => some k_ ≠ (.slice Ao47 t9014.length co47 : Value).ownBlock ∧ some k_ ≠ (.slice Ao55 t9023.length co55 : Value).ownBlock ∧ some k_ ≠ (.slice Ao63 t9030.length co63 : Value).ownBlock ∧ some k_ ≠ (.slice Ao71 t9041.length co71 : Value).ownBlock ∧ some k_ ≠ (.slice Ao75 t9048.length co75 : Value).ownBlock) (Kd.R_keptB (HO9010.out) hkp (fun k_ hk_ hs_ => (hk_.2.2.1) hs_)) (fun k_ hk_ => ⟨hk_.1.1, hk_.1.2.1, hk_.1.2.2.1, hk_.1.2.2.2.1, hk_.1.2.2.2.2⟩)); have n3_ := Aside0.mk (Kd.R_mono (ok' := fun k_ => some k_ ≠ (.slice Ao46 t9008.length co46 : Value).ownBlock ∧ some k_ ≠ (.slice Ao55 t9023.length co55 : Value).ownBlock ∧ some k_ ≠ (.slice Ao63 t9030.length co63 : Value).ownBlock ∧ some k_ ≠ (.slice Ao71 t9041.length co71 : Value).ownBlock ∧ some k_ ≠ (.slice Ao75 t9048.length co75 : Value).ownBlock) (Kd.R_keptB (HO9016.out) hkp (fun k_ hk_ hs_ => (hk_.2.2.1) hs_)) (fun k_ hk_ => ⟨hk_.1.1, hk_.1.2.1, hk_.1.2.2.1, hk_.1.2.2.2.1, hk_.1.2.2.2.2⟩)); have n4_ := Aside0.mk (Kd.R_mono (ok' := fun k_ => some k_ ≠ (.slice Ao66 t9034.length co66 : Value).ownBlock) (Kd.R_keptB ((Kd.R_apart' HO9019.out (Kd.R_typed HO9032.out) (by decide))) hkp (fun k_ hk_ hs_ => (hk_.2) hs_)) (fun k_ hk_ => hk_.1.1)); have n5_ := Aside0.mk (Kd.R_mono (ok' := fun k_ => some k_ ≠ (.slice Ao46 t9008.length co46 : Value).ownBlock ∧ some k_ ≠ (.slice Ao47 t9014.length co47 : Value).ownBlock ∧ some k_ ≠ (.slice Ao63 t9030.length co63 : Value).ownBlock ∧ some k_ ≠ (.slice Ao71 t9041.length co71 : Value).ownBlock ∧ some k_ ≠ (.slice Ao75 t9048.length co75 : Value).ownBlock) (Kd.R_keptB (HO9025.out) hkp (fun k_ hk_ hs_ => (hk_.1.1.2) hs_)) (fun k_ hk_ => ⟨hk_.1.1.1.1.1.2, hk_.1.1.1.1.2, hk_.1.1.1.2, hk_.1.1.2, hk_.1.2⟩)); have n6_ := Aside0.mk (blk_kept (by (with_reducible repeat (first | refine blk_drewN ?_ _ | refine blk_drew ?_ | refine blk_alloc ?_ _)); exact BK9026.out) hkp (fun hs_ => (fun e_ => (Kd.R_ne HO9032.out BK9026.out (by decide)) e_) hs_)); have n7_ := Aside0.mk (Kd.R_reok rfl hy0 (fun k_ e_ => HO9032.out.1 k_ e_)); have n8_ := Aside0.mk (blk_kept (by (with_reducible repeat (first | refine blk_drewN ?_ _ | refine blk_drew ?_ | refine blk_alloc ?_ _)); exact BK9033.out) hkp (fun hs_ => (fun e_ => (Kd.R_ne HO9032.out BK9033.out (by decide)) e_) hs_)); have n9_ := Aside0.mk (Kd.R_mono (ok' := fun k_ => some k_ ≠ (.slice Ao67 t9017.length co67 : Value).ownBlock) (Kd.R_keptB ((Kd.R_apart' HO9036.out (Kd.R_typed HO9032.out) (by decide))) hkp (fun k_ hk_ hs_ => (hk_.2) hs_)) (fun k_ hk_ => hk_.1.1)); have n10_ := Aside0.mk (Kd.R_mono (ok' := fun k_ => some k_ ≠ (.slice Ao46 t9008.length co46 : Value).ownBlock ∧ some k_ ≠ (.slice Ao47 t9014.length co47 : Value).ownBlock ∧ some k_ ≠ (.slice Ao55 t9023.length co55 : Value).ownBlock ∧ some k_ ≠ (.slice Ao63 t9030.length co63 : Value).ownBlock ∧ some k_ ≠ (.slice Ao75 t9048.length co75 : Value).ownBlock) (Kd.R_keptB (HO9043.out) hkp (fun k_ hk_ hs_ => (hk_.2.2.2.1) hs_)) (fun k_ hk_ => ⟨hk_.1.1, hk_.1.2.1, hk_.1.2.2.1, hk_.1.2.2.2.1, hk_.1.2.2.2.2⟩)); have n11_ := Aside0.mk (Kd.R_mono (ok' := fun k_ => some k_ ≠ (.slice Ao46 t9008.length co46 : Value).ownBlock ∧ some k_ ≠ (.slice Ao47 t9014.length co47 : Value).ownBlock ∧ some k_ ≠ (.slice Ao55 t9023.length co55 : Value).ownBlock ∧ some k_ ≠ (.slice Ao63 t9030.length co63 : Value).ownBlock ∧ some k_ ≠ (.slice Ao71 t9041.length co71 : Value).ownBlock) (Kd.R_keptB (HO9050.out) hkp (fun k_ hk_ hs_ => (hk_.2.2.2.1) hs_)) (fun k_ hk_ => ⟨hk_.1.1, hk_.1.2.1, hk_.1.2.2.1, hk_.1.2.2.2.1, hk_.1.2.2.2.2⟩)); have n12_ := Aside0.mk (hb); clear BK9001; clear BK9002; clear HO9010; clear HO9016; clear HO9019; clear HO9025; clear BK9026; clear HO9032; clear BK9033; clear HO9036; clear HO9043; clear HO9050; clear HB; have BK9001 := n0_; have BK9002 := n1_; have HO9010 := n2_; have HO9016 := n3_; have HO9019 := n4_; have HO9025 := n5_; have BK9026 := n6_; have HO9032 := n7_; have BK9033 := n8_; have HO9036 := n9_; have HO9043 := n10_; have HO9050 := n11_; have HB := n12_; clear n0_ n1_ n2_ n3_ n4_ n5_ n6_ n7_ n8_ n9_ n10_ n11_ n12_; (try clear hb); (try clear hkp); (try clear hy0)))
            (try simp only [Act.put, List.setIfInBounds_toArray, List.set_cons_zero, List.set_cons_succ])
            go_cut [63] (fun v63 wc => ∃ (kq : Nat) (x63_34 : Bool), v63 = .bool x63_34 ∧ Aside0 (laws_FnExactChangedBoxes.j0 kq t9017 t9034 x63_34 a0_0 a0_1 a0_2 l0_3 a1_0 a1_1 a1_2 l1_3 = some r) ∧ Aside0 (kq ≤ k) ∧ Aside0 (Kd.R k60 60 wc w.heap.size (fun k_ => some k_ ≠ ((.slice Ao66 t9034.length co66) : Value).ownBlock) (.slice Ao67 t9017.length co67) t9017) ∧ Aside0 (Kd.R k60 60 wc w.heap.size (fun k_ => some k_ ≠ ((.slice Ao67 t9017.length co67) : Value).ownBlock) (.slice Ao66 t9034.length co66) t9034) ∧ Aside0 (Kd.R (Kd.int .i64) 3 wc w.heap.size (fun k_ => some k_ ≠ ((.slice Ao63 t9030.length co63) : Value).ownBlock) (.slice Ao55 t9023.length co55) t9053) ∧ Aside0 (Kd.R (Kd.int .i64) 3 wc w.heap.size (fun k_ => some k_ ≠ ((.slice Ao55 t9023.length co55) : Value).ownBlock) (.slice Ao63 t9030.length co63) t9055) ∧ Aside0 (wc.heap[gb9001]? = some (.cells #[.int .i64 a0_0, .int .i64 a0_1, .int .i64 a0_2, (.slice A0_3 l0_3.length c0_3)] 24 (0, 0))) ∧ Aside0 (wc.heap[gb9002]? = some (.cells #[.int .i64 a1_0, .int .i64 a1_1, .int .i64 a1_2, (.slice A1_3 l1_3.length c1_3)] 24 (0, 0))) ∧ Aside0 (wc.heap[gb9026]? = some (.cells #[.int .i64 t9020, .int .i64 t9021, .int .i64 t9022, (.slice Ao55 t9023.length co55)] 28 (0, 0))) ∧ Aside0 (wc.heap[gb9033]? = some (.cells #[.int .i64 t9027, .int .i64 t9028, .int .i64 t9029, (.slice Ao63 t9030.length co63)] 28 (0, 0))) ∧ Aside0 (Below w.heap.size w wc))
            case first =>
              have H := HC35.out
              clear HC35
              by_cases c81 : t9054 < 0
              · rw [if_pos c81] at H
                have c81b0 : decide (t9054 < 0) = true := decide_eq_true c81
                clear c81
                (first | rw [c81b0] | (simp only [i64_w, i32_w]; rw [c81b0]) | skip)
                have H' := Aside0.mk H
                clear H
                go_wp2
                go_meet
                case rel => exact ⟨_, (true), (by first | rfl | (simp; done) | (simp [*]; done)), H', ⟨by first | omega | exact Nat.le_refl _⟩, ⟨by (with_reducible repeat (first | apply Kd.R_alloc | apply Kd.R_drewN | apply Kd.R_drew)); exact HO9019.out⟩, ⟨by (with_reducible repeat (first | apply Kd.R_alloc | apply Kd.R_drewN | apply Kd.R_drew)); exact HO9036.out⟩, ⟨by (with_reducible repeat (first | apply Kd.R_alloc | apply Kd.R_drewN | apply Kd.R_drew)); exact Kd.R_mono HO9025.out (fun _ hk => hk.2.2.1)⟩, ⟨by (with_reducible repeat (first | apply Kd.R_alloc | apply Kd.R_drewN | apply Kd.R_drew)); exact Kd.R_mono HO9032.out (fun _ hk => hk.2.2.1)⟩, ⟨by (with_reducible repeat (first | refine blk_drewN ?_ _ | refine blk_drew ?_ | refine blk_alloc ?_ _)); exact BK9001.out⟩, ⟨by (with_reducible repeat (first | refine blk_drewN ?_ _ | refine blk_drew ?_ | refine blk_alloc ?_ _)); exact BK9002.out⟩, ⟨by (with_reducible repeat (first | refine blk_drewN ?_ _ | refine blk_drew ?_ | refine blk_alloc ?_ _)); exact BK9026.out⟩, ⟨by (with_reducible repeat (first | refine blk_drewN ?_ _ | refine blk_drew ?_ | refine blk_alloc ?_ _)); exact BK9033.out⟩, ⟨by repeat (first | (with_reducible first | exact HB.out | apply below_alloc | apply pw_below_drewN | apply below_drew1 | refine below_set ?_ GE9001.out | refine below_set ?_ GE9002.out | refine below_set ?_ GE9026.out | refine below_set ?_ GE9033.out) | exact HB.out)⟩⟩
              · rw [if_neg c81] at H
                have c81b0 : decide (t9054 < 0) = false := decide_eq_false c81
                clear c81
                (first | rw [c81b0] | (simp only [i64_w, i32_w]; rw [c81b0]) | skip)
                replace H := Option.bind_eq_some_iff.mp H
                obtain ⟨t9056, A820, H⟩ := H
                replace H : (laws_FnExactChangedBoxes.j0 k t9017 t9034 (!t9056) a0_0 a0_1 a0_2 l0_3 a1_0 a1_1 a1_2 l1_3) = some r := H
                have A82 := Aside0.mk A820
                clear A820
                have H' := Aside0.mk H
                clear H
                go_wp2_with (first | (go_at_call 34; (with_reducible refine (laws_eqBoxS.calls k _ _ t9034 _ _ t9017 t9056 _ ?side1 ?side2 ?side3 ?side4 A82.out).mono ?_); (case side1 => repeat (first | exact (Kd.R_reads' HO9036.out).2.2 | (with_reducible refine Kd.C_alloc ?_ _) | (with_reducible refine Kd.C_drewN ?_ _) | (with_reducible refine Kd.C_drew ?_))); (case side2 => exact (Kd.R_reads' HO9036.out).2.1); (case side3 => repeat (first | exact (Kd.R_reads' HO9019.out).2.2 | (with_reducible refine Kd.C_alloc ?_ _) | (with_reducible refine Kd.C_drewN ?_ _) | (with_reducible refine Kd.C_drew ?_))); (case side4 => exact (Kd.R_reads' HO9019.out).2.1); rintro e w83 ⟨rfl, hb⟩; have n0_ := Aside0.mk (Kd.R_below (by (with_reducible repeat (first | apply Kd.R_alloc | apply Kd.R_drewN | apply Kd.R_drew)); exact HO9010.out) hb); have n1_ := Aside0.mk (Kd.R_below (by (with_reducible repeat (first | apply Kd.R_alloc | apply Kd.R_drewN | apply Kd.R_drew)); exact HO9016.out) hb); have n2_ := Aside0.mk (Kd.R_below (by (with_reducible repeat (first | apply Kd.R_alloc | apply Kd.R_drewN | apply Kd.R_drew)); exact HO9019.out) hb); have n3_ := Aside0.mk (Kd.R_below (by (with_reducible repeat (first | apply Kd.R_alloc | apply Kd.R_drewN | apply Kd.R_drew)); exact HO9025.out) hb); have n4_ := Aside0.mk (Kd.R_below (by (with_reducible repeat (first | apply Kd.R_alloc | apply Kd.R_drewN | apply Kd.R_drew)); exact HO9032.out) hb); have n5_ := Aside0.mk (Kd.R_below (by (with_reducible repeat (first | apply Kd.R_alloc | apply Kd.R_drewN | apply Kd.R_drew)); exact HO9036.out) hb); have n6_ := Aside0.mk (Kd.R_below (by (with_reducible repeat (first | apply Kd.R_alloc | apply Kd.R_drewN | apply Kd.R_drew)); exact HO9043.out) hb); have n7_ := Aside0.mk (Kd.R_below (by (with_reducible repeat (first | apply Kd.R_alloc | apply Kd.R_drewN | apply Kd.R_drew)); exact HO9050.out) hb); have n8_ := Aside0.mk (blk_below (g := gb9001) (o := .cells #[.int .i64 a0_0, .int .i64 a0_1, .int .i64 a0_2, .slice A0_3 l0_3.length c0_3] 24 (0, 0)) (by (with_reducible repeat (first | refine blk_drewN ?_ _ | refine blk_drew ?_ | refine blk_alloc ?_ _)); exact BK9001.out) hb); have n9_ := Aside0.mk (blk_below (g := gb9002) (o := .cells #[.int .i64 a1_0, .int .i64 a1_1, .int .i64 a1_2, .slice A1_3 l1_3.length c1_3] 24 (0, 0)) (by (with_reducible repeat (first | refine blk_drewN ?_ _ | refine blk_drew ?_ | refine blk_alloc ?_ _)); exact BK9002.out) hb); have n10_ := Aside0.mk (blk_below (g := gb9026) (o := .cells #[.int .i64 t9020, .int .i64 t9021, .int .i64 t9022, .slice Ao55 t9023.length co55] 28 (0, 0)) (by (with_reducible repeat (first | refine blk_drewN ?_ _ | refine blk_drew ?_ | refine blk_alloc ?_ _)); exact BK9026.out) hb); have n11_ := Aside0.mk (blk_below (g := gb9033) (o := .cells #[.int .i64 t9027, .int .i64 t9028, .int .i64 t9029, .slice Ao63 t9030.length co63] 28 (0, 0)) (by (with_reducible repeat (first | refine blk_drewN ?_ _ | refine blk_drew ?_ | refine blk_alloc ?_ _)); exact BK9033.out) hb); have n12_ := Aside0.mk (below_step (by repeat (first | (with_reducible first | exact HB.out | apply below_alloc | apply pw_below_drewN | apply below_drew1 | refine below_set ?_ GE9001.out | refine below_set ?_ GE9002.out | refine below_set ?_ GE9026.out | refine below_set ?_ GE9033.out) | exact HB.out)) hb); clear HO9010; clear HO9016; clear HO9019; clear HO9025; clear HO9032; clear HO9036; clear HO9043; clear HO9050; clear BK9001; clear BK9002; clear BK9026; clear BK9033; clear HB; have HO9010 := n0_; have HO9016 := n1_; have HO9019 := n2_; have HO9025 := n3_; have HO9032 := n4_; have HO9036 := n5_; have HO9043 := n6_; have HO9050 := n7_; have BK9001 := n8_; have BK9002 := n9_; have BK9026 := n10_; have BK9033 := n11_; have HB := n12_; clear n0_ n1_ n2_ n3_ n4_ n5_ n6_ n7_ n8_ n9_ n10_ n11_ n12_; (try clear hb); (try clear hb2); (try clear hk); (try clear hi)))
                go_meet
                case rel => exact ⟨_, (!t9056), (by first | rfl | (simp; done) | (simp [*]; done)), H', ⟨by first | omega | exact Nat.le_refl _⟩, ⟨by (with_reducible repeat (first | apply Kd.R_alloc | apply Kd.R_drewN | apply Kd.R_drew)); exact HO9019.out⟩, ⟨by (with_reducible repeat (first | apply Kd.R_alloc | apply Kd.R_drewN | apply Kd.R_drew)); exact HO9036.out⟩, ⟨by (with_reducible repeat (first | apply Kd.R_alloc | apply Kd.R_drewN | apply Kd.R_drew)); exact Kd.R_mono HO9025.out (fun _ hk => hk.2.2.1)⟩, ⟨by (with_reducible repeat (first | apply Kd.R_alloc | apply Kd.R_drewN | apply Kd.R_drew)); exact Kd.R_mono HO9032.out (fun _ hk => hk.2.2.1)⟩, ⟨by (with_reducible repeat (first | refine blk_drewN ?_ _ | refine blk_drew ?_ | refine blk_alloc ?_ _)); exact BK9001.out⟩, ⟨by (with_reducible repeat (first | refine blk_drewN ?_ _ | refine blk_drew ?_ | refine blk_alloc ?_ _)); exact BK9002.out⟩, ⟨by (with_reducible repeat (first | refine blk_drewN ?_ _ | refine blk_drew ?_ | refine blk_alloc ?_ _)); exact BK9026.out⟩, ⟨by (with_reducible repeat (first | refine blk_drewN ?_ _ | refine blk_drew ?_ | refine blk_alloc ?_ _)); exact BK9033.out⟩, ⟨by repeat (first | (with_reducible first | exact HB.out | apply below_alloc | apply pw_below_drewN | apply below_drew1 | refine below_set ?_ GE9001.out | refine below_set ?_ GE9002.out | refine below_set ?_ GE9026.out | refine below_set ?_ GE9033.out) | exact HB.out)⟩⟩
            case rest =>
              clear HC35
              try clear c1
              try clear c2
              try clear p2
              try clear c3
              try clear c5
              try clear c6
              try clear c8
              try clear c11
              try clear c13
              try clear c16
              try clear c17
              try clear c29
              try clear c32
              try clear c33
              try clear c34
              try clear c38
              try clear c52
              try clear c53
              try clear c59
              try clear c60
              try clear c61
              try clear c81
              try clear c81b0
              try clear hcz39_0
              try clear hcz39_1
              try clear hcz39_2
              try clear hcz39_3
              try clear hcz41_0
              try clear hcz41_1
              try clear hcz41_2
              try clear hcz41_3
              try clear hcz49_0
              try clear hcz49_1
              try clear hcz49_2
              try clear hcz49_3
              try clear hcz54_0
              try clear hcz54_1
              try clear hcz54_2
              try clear hcz54_3
              try clear hcz56_0
              try clear hcz56_1
              try clear hcz56_2
              try clear hcz56_3
              try clear hcz62_0
              try clear hcz62_1
              try clear hcz62_2
              try clear hcz62_3
              try clear hcz64_0
              try clear hcz64_1
              try clear hcz64_2
              try clear hcz64_3
              try clear hcz77_0
              try clear hcz77_1
              try clear hcz77_2
              try clear hcz77_3
              try clear hcz79_0
              try clear hcz79_1
              try clear hcz79_2
              try clear hcz79_3
              try clear hfz39_0
              try clear hfz39_1
              try clear hfz39_2
              try clear hfz39_3
              try clear hfz41_0
              try clear hfz41_1
              try clear hfz41_2
              try clear hfz41_3
              try clear hfz49_0
              try clear hfz49_1
              try clear hfz49_2
              try clear hfz49_3
              try clear hfz54_0
              try clear hfz54_1
              try clear hfz54_2
              try clear hfz54_3
              try clear hfz56_0
              try clear hfz56_1
              try clear hfz56_2
              try clear hfz56_3
              try clear hfz62_0
              try clear hfz62_1
              try clear hfz62_2
              try clear hfz62_3
              try clear hfz64_0
              try clear hfz64_1
              try clear hfz64_2
              try clear hfz64_3
              try clear hfz77_0
              try clear hfz77_1
              try clear hfz77_2
              try clear hfz77_3
              try clear hfz79_0
              try clear hfz79_1
              try clear hfz79_2
              try clear hfz79_3
              obtain ⟨kq, x63_34, rfl, HA, HJ34, HO_6, HO_9, HO_9027003, HO_9034003, BK9001, BK9002, BK9026, BK9033, HB⟩ := hcut
              have hl9027003_34 := (Kd.R_reads' HO_9027003.out).1
              rw [hl9027003_34] at HO_9027003
              (try simp only [hl9027003_34])
              (try simp only [hl9027003_34] at BK9001)
              (try simp only [hl9027003_34] at BK9002)
              (try simp only [hl9027003_34] at BK9026)
              (try simp only [hl9027003_34] at BK9033)
              (try simp only [hl9027003_34] at HO_6)
              (try simp only [hl9027003_34] at HO_9)
              (try simp only [hl9027003_34] at HO_9034003)
              have hl9034003_34 := (Kd.R_reads' HO_9034003.out).1
              rw [hl9034003_34] at HO_9034003
              (try simp only [hl9034003_34])
              (try simp only [hl9034003_34] at BK9001)
              (try simp only [hl9034003_34] at BK9002)
              (try simp only [hl9034003_34] at BK9026)
              (try simp only [hl9034003_34] at BK9033)
              (try simp only [hl9034003_34] at HO_6)
              (try simp only [hl9034003_34] at HO_9)
              (try simp only [hl9034003_34] at HO_9027003)
              cases kq with
              | zero => exact absurd HA.out (by simp [laws_FnExactChangedBoxes.j0])
              | succ kj34 =>
                have H := HA.out
                clear HA
                simp only [laws_FnExactChangedBoxes.j0] at H
                by_cases c84 : x63_34 = true
                · subst c84
                  have H1 : (some false) = some r := by rw [if_pos rfl] at H; exact H
                  clear H
                  have H := H1
                  clear H1
                  exact absurd ((Option.some.inj H).trans HRT.out) (by decide)
                · replace c84 := Bool.eq_false_iff.mpr c84
                  subst c84
                  have H1 : ((laws_markBoxS.f kj34 t9034 1).bind fun bt9057 => ((laws_heldBoxS.f kj34 bt9057.2 1).bind fun t9059 => (if t9059 < 0 then (some false) else (if t9059 = bt9057.1 then ((laws_toImage.f kj34 a0_0 a0_1 a0_2 l0_3).bind fun bt9060 => ((laws_toImage.f kj34 a1_0 a1_1 a1_2 l1_3).bind fun bt9066 => ((impl_ChangedBoxes.f bt9060.1 bt9060.2.1 bt9060.2.2.1 bt9060.2.2.2 bt9066.1 bt9066.2.1 bt9066.2.2.1 bt9066.2.2.2).bind fun t9072 => ((laws_eqBoxS.f kj34 t9072 t9017).bind fun t9075 => (if t9075 = true then ((laws_heldBoxS.f kj34 bt9057.2 1).bind fun t9076 => (if t9076 < 0 then (some false) else (if t9076 = bt9057.1 then (some true) else (some false)))) else (some false)))))) else (some false))))) = some r := by rw [if_neg (show ¬ (false = true) by decide)] at H; exact H
                  clear H
                  have H := H1
                  clear H1
                  replace H := Option.bind_eq_some_iff.mp H
                  obtain ⟨⟨t9057, t9058⟩, A850, H⟩ := H
                  replace H : ((laws_heldBoxS.f kj34 t9058 1).bind fun t9059 => (if t9059 < 0 then (some false) else (if t9059 = t9057 then ((laws_toImage.f kj34 a0_0 a0_1 a0_2 l0_3).bind fun bt9060 => ((laws_toImage.f kj34 a1_0 a1_1 a1_2 l1_3).bind fun bt9066 => ((impl_ChangedBoxes.f bt9060.1 bt9060.2.1 bt9060.2.2.1 bt9060.2.2.2 bt9066.1 bt9066.2.1 bt9066.2.2.1 bt9066.2.2.2).bind fun t9072 => ((laws_eqBoxS.f kj34 t9072 t9017).bind fun t9075 => (if t9075 = true then ((laws_heldBoxS.f kj34 t9058 1).bind fun t9076 => (if t9076 < 0 then (some false) else (if t9076 = t9057 then (some true) else (some false)))) else (some false)))))) else (some false)))) = some r := H
                  have A85 := Aside0.mk A850
                  clear A850
                  replace H := Option.bind_eq_some_iff.mp H
                  obtain ⟨t9059, A860, H⟩ := H
                  replace H : (if t9059 < 0 then (some false) else (if t9059 = t9057 then ((laws_toImage.f kj34 a0_0 a0_1 a0_2 l0_3).bind fun bt9060 => ((laws_toImage.f kj34 a1_0 a1_1 a1_2 l1_3).bind fun bt9066 => ((impl_ChangedBoxes.f bt9060.1 bt9060.2.1 bt9060.2.2.1 bt9060.2.2.2 bt9066.1 bt9066.2.1 bt9066.2.2.1 bt9066.2.2.2).bind fun t9072 => ((laws_eqBoxS.f kj34 t9072 t9017).bind fun t9075 => (if t9075 = true then ((laws_heldBoxS.f kj34 t9058 1).bind fun t9076 => (if t9076 < 0 then (some false) else (if t9076 = t9057 then (some true) else (some false)))) else (some false)))))) else (some false))) = some r := H
                  have A86 := Aside0.mk A860
                  clear A860
                  by_cases c87 : t9059 < 0
                  · rw [if_pos c87] at H
                    have c87b0 : decide (t9059 < 0) = true := decide_eq_true c87
                    clear c87
                    exact absurd ((Option.some.inj H).trans HRT.out) (by decide)
                  · rw [if_neg c87] at H
                    have c87b0 : decide (t9059 < 0) = false := decide_eq_false c87
                    clear c87
                    by_cases c89 : t9059 = t9057
                    · rw [if_pos c89] at H
                      have c89b0 : (t9059 == t9057) = true := beq_iff_eq.mpr c89
                      have c89b1 : (t9059 != t9057) = false := bne_eq_false_iff_eq.mpr c89
                      clear c89
                      replace H := Option.bind_eq_some_iff.mp H
                      obtain ⟨⟨t9060, t9061, t9062, t9063⟩, A900, H⟩ := H
                      replace H : ((laws_toImage.f kj34 a1_0 a1_1 a1_2 l1_3).bind fun bt9066 => ((impl_ChangedBoxes.f t9060 t9061 t9062 t9063 bt9066.1 bt9066.2.1 bt9066.2.2.1 bt9066.2.2.2).bind fun t9072 => ((laws_eqBoxS.f kj34 t9072 t9017).bind fun t9075 => (if t9075 = true then ((laws_heldBoxS.f kj34 t9058 1).bind fun t9076 => (if t9076 < 0 then (some false) else (if t9076 = t9057 then (some true) else (some false)))) else (some false))))) = some r := H
                      have A90 := Aside0.mk A900
                      clear A900
                      replace H := Option.bind_eq_some_iff.mp H
                      obtain ⟨⟨t9066, t9067, t9068, t9069⟩, A910, H⟩ := H
                      replace H : ((impl_ChangedBoxes.f t9060 t9061 t9062 t9063 t9066 t9067 t9068 t9069).bind fun t9072 => ((laws_eqBoxS.f kj34 t9072 t9017).bind fun t9075 => (if t9075 = true then ((laws_heldBoxS.f kj34 t9058 1).bind fun t9076 => (if t9076 < 0 then (some false) else (if t9076 = t9057 then (some true) else (some false)))) else (some false)))) = some r := H
                      have A91 := Aside0.mk A910
                      clear A910
                      replace H := Option.bind_eq_some_iff.mp H
                      obtain ⟨t9072, A920, H⟩ := H
                      replace H : ((laws_eqBoxS.f kj34 t9072 t9017).bind fun t9075 => (if t9075 = true then ((laws_heldBoxS.f kj34 t9058 1).bind fun t9076 => (if t9076 < 0 then (some false) else (if t9076 = t9057 then (some true) else (some false)))) else (some false))) = some r := H
                      have A92 := Aside0.mk A920
                      clear A920
                      replace H := Option.bind_eq_some_iff.mp H
                      obtain ⟨t9075, A930, H⟩ := H
                      replace H : (if t9075 = true then ((laws_heldBoxS.f kj34 t9058 1).bind fun t9076 => (if t9076 < 0 then (some false) else (if t9076 = t9057 then (some true) else (some false)))) else (some false)) = some r := H
                      have A93 := Aside0.mk A930
                      clear A930
                      by_cases c94 : t9075 = true
                      · subst c94
                        have H1 : ((laws_heldBoxS.f kj34 t9058 1).bind fun t9076 => (if t9076 < 0 then (some false) else (if t9076 = t9057 then (some true) else (some false)))) = some r := by rw [if_pos rfl] at H; exact H
                        clear H
                        have H := H1
                        clear H1
                        replace H := Option.bind_eq_some_iff.mp H
                        obtain ⟨t9076, A950, H⟩ := H
                        replace H : (if t9076 < 0 then (some false) else (if t9076 = t9057 then (some true) else (some false))) = some r := H
                        have A95 := Aside0.mk A950
                        clear A950
                        by_cases c96 : t9076 < 0
                        · rw [if_pos c96] at H
                          have c96b0 : decide (t9076 < 0) = true := decide_eq_true c96
                          clear c96
                          exact absurd ((Option.some.inj H).trans HRT.out) (by decide)
                        · rw [if_neg c96] at H
                          have c96b0 : decide (t9076 < 0) = false := decide_eq_false c96
                          clear c96
                          by_cases c106 : t9076 = t9057
                          · rw [if_pos c106] at H
                            have c106b0 : (t9076 == t9057) = true := beq_iff_eq.mpr c106
                            have c106b1 : (t9076 != t9057) = false := bne_eq_false_iff_eq.mpr c106
                            clear c106
                            obtain rfl := Option.some.inj H
                            try go_wp2_with (first | ((with_reducible refine gate_callee (f := 35) rfl ?_); refine goesL_ (some 66) rfl rfl Try.func35 (by kernel_rfl) rfl #[.slice Ao66 t9034.length co66, .int .i64 1] rfl (by (try simp only [List.map_toArray, List.map_cons, List.map_nil]); first | done | rfl | (simp only [List.length_drop, List.length_take]; rfl)) ?_; (with_reducible refine (laws_markBoxS.calls kj34 (fun k_ => some k_ = (.slice Ao66 t9034.length co66 : Value).ownBlock) (.slice Ao66 t9034.length co66) t9034 1 t9057 t9058 w _ ?side1 ?side2 A85.out).mono ?_); (case side1 => repeat (first | (with_reducible first | exact HB.out | apply below_alloc | apply pw_below_drewN | apply below_drew1 | refine below_set ?_ GE9001.out | refine below_set ?_ GE9002.out | refine below_set ?_ GE9026.out | refine below_set ?_ GE9033.out) | exact HB.out)); (case side2 => exact Kd.R_tight rfl HO_9.out); rintro e w107 ⟨rfl, hy0, hb, hkp⟩; refine ⟨_, rfl, ?_⟩; have n0_ := Aside0.mk (Kd.R_mono (ok' := fun k_ => some k_ ≠ (.slice Ao66 t9034.length co66 : Value).ownBlock) (Kd.R_keptB (HO_6.out) hkp (fun k_ hk_ hs_ => (hk_) hs_)) (fun k_ hk_ => hk_.1)); have n1_ := Aside0.mk (Kd.R_reok rfl hy0 (fun k_ e_ => HO_9.out.1 k_ e_)); have n2_ := Aside0.mk (Kd.R_mono (ok' := fun k_ => some k_ ≠ (.slice Ao63 t9055.length co63 : Value).ownBlock) (Kd.R_keptB ((Kd.R_apart' HO_9027003.out (Kd.R_typed HO_9.out) (by decide))) hkp (fun k_ hk_ hs_ => (hk_.2) hs_)) (fun k_ hk_ => hk_.1.1)); have n3_ := Aside0.mk (Kd.R_mono (ok' := fun k_ => some k_ ≠ (.slice Ao55 t9053.length co55 : Value).ownBlock) (Kd.R_keptB ((Kd.R_apart' HO_9034003.out (Kd.R_typed HO_9.out) (by decide))) hkp (fun k_ hk_ hs_ => (hk_.2) hs_)) (fun k_ hk_ => hk_.1.1)); have n4_ := Aside0.mk (blk_kept (by (with_reducible repeat (first | refine blk_drewN ?_ _ | refine blk_drew ?_ | refine blk_alloc ?_ _)); exact BK9001.out) hkp (fun hs_ => (fun e_ => (Kd.R_ne HO_9.out BK9001.out (by decide)) e_) hs_)); have n5_ := Aside0.mk (blk_kept (by (with_reducible repeat (first | refine blk_drewN ?_ _ | refine blk_drew ?_ | refine blk_alloc ?_ _)); exact BK9002.out) hkp (fun hs_ => (fun e_ => (Kd.R_ne HO_9.out BK9002.out (by decide)) e_) hs_)); have n6_ := Aside0.mk (blk_kept (by (with_reducible repeat (first | refine blk_drewN ?_ _ | refine blk_drew ?_ | refine blk_alloc ?_ _)); exact BK9026.out) hkp (fun hs_ => (fun e_ => (Kd.R_ne HO_9.out BK9026.out (by decide)) e_) hs_)); have n7_ := Aside0.mk (blk_kept (by (with_reducible repeat (first | refine blk_drewN ?_ _ | refine blk_drew ?_ | refine blk_alloc ?_ _)); exact BK9033.out) hkp (fun hs_ => (fun e_ => (Kd.R_ne HO_9.out BK9033.out (by decide)) e_) hs_)); have n8_ := Aside0.mk (hb); clear HO_6; clear HO_9; clear HO_9027003; clear HO_9034003; clear BK9001; clear BK9002; clear BK9026; clear BK9033; clear HB; have HO_6 := n0_; have HO_9 := n1_; have HO_9027003 := n2_; have HO_9034003 := n3_; have BK9001 := n4_; have BK9002 := n5_; have BK9026 := n6_; have BK9033 := n7_; have HB := n8_; clear n0_ n1_ n2_ n3_ n4_ n5_ n6_ n7_ n8_; (try clear hb); (try clear hkp); (try clear hy0)) | ((with_reducible refine gate_callee (f := 36) rfl ?_); refine goesL_ (some 69) rfl rfl Try.func36 (by kernel_rfl) rfl #[.slice Ao66 t9058.length co66, .int .i64 1] rfl (by (try simp only [List.map_toArray, List.map_cons, List.map_nil]); first | done | (rw [show t9058.length = t9034.length from (Kd.R_reads' HO_9.out).1.symm] <;> rfl) | rfl | (simp only [List.length_drop, List.length_take]; rfl)) ?_; (with_reducible refine (laws_heldBoxS.calls kj34 _ _ t9058 1 t9059 _ ?side1 ?side2 A86.out).mono ?_); (case side1 => repeat (first | exact (Kd.R_reads' HO_9.out).2.2 | (with_reducible refine Kd.C_alloc ?_ _) | (with_reducible refine Kd.C_drewN ?_ _) | (with_reducible refine Kd.C_drew ?_))); (case side2 => rw [show t9058.length = t9034.length from (Kd.R_reads' HO_9.out).1.symm]; exact (Kd.R_reads' HO_9.out).2.1); rintro e w' ⟨rfl, ⟨nd, rfl⟩⟩; refine ⟨_, rfl, ?_⟩))
                            (try (rw [drewN_self w107]; generalize hq_ : World.drewN w107 _ = w107; have n0_ : Aside0 (Kd.R k60 60 w107 w.heap.size (fun k_ => some k_ ≠ (.slice Ao66 t9034.length co66 : Value).ownBlock) (.slice Ao67 t9017.length co67) t9017) := ⟨by rw [← hq_]; exact (by (with_reducible repeat (first | apply Kd.R_alloc | apply Kd.R_drewN | apply Kd.R_drew)); exact HO_6.out)⟩; have n1_ : Aside0 (Kd.R k60 60 w107 w.heap.size (fun k_ => some k_ ≠ (.slice Ao67 t9017.length co67 : Value).ownBlock) (.slice Ao66 t9034.length co66) t9058) := ⟨by rw [← hq_]; exact (by (with_reducible repeat (first | apply Kd.R_alloc | apply Kd.R_drewN | apply Kd.R_drew)); exact HO_9.out)⟩; have n2_ : Aside0 (Kd.R (Kd.int .i64) 3 w107 w.heap.size (fun k_ => some k_ ≠ (.slice Ao63 t9055.length co63 : Value).ownBlock) (.slice Ao55 t9053.length co55) t9053) := ⟨by rw [← hq_]; exact (by (with_reducible repeat (first | apply Kd.R_alloc | apply Kd.R_drewN | apply Kd.R_drew)); exact HO_9027003.out)⟩; have n3_ : Aside0 (Kd.R (Kd.int .i64) 3 w107 w.heap.size (fun k_ => some k_ ≠ (.slice Ao55 t9053.length co55 : Value).ownBlock) (.slice Ao63 t9055.length co63) t9055) := ⟨by rw [← hq_]; exact (by (with_reducible repeat (first | apply Kd.R_alloc | apply Kd.R_drewN | apply Kd.R_drew)); exact HO_9034003.out)⟩; have n4_ : Aside0 (w107.heap[gb9001]? = some (.cells #[.int .i64 a0_0, .int .i64 a0_1, .int .i64 a0_2, .slice A0_3 l0_3.length c0_3] 24 (0, 0))) := ⟨by rw [← hq_]; exact (by (with_reducible repeat (first | refine blk_drewN ?_ _ | refine blk_drew ?_ | refine blk_alloc ?_ _)); exact BK9001.out)⟩; have n5_ : Aside0 (w107.heap[gb9002]? = some (.cells #[.int .i64 a1_0, .int .i64 a1_1, .int .i64 a1_2, .slice A1_3 l1_3.length c1_3] 24 (0, 0))) := ⟨by rw [← hq_]; exact (by (with_reducible repeat (first | refine blk_drewN ?_ _ | refine blk_drew ?_ | refine blk_alloc ?_ _)); exact BK9002.out)⟩; have n6_ : Aside0 (w107.heap[gb9026]? = some (.cells #[.int .i64 t9020, .int .i64 t9021, .int .i64 t9022, .slice Ao55 t9053.length co55] 28 (0, 0))) := ⟨by rw [← hq_]; exact (by (with_reducible repeat (first | refine blk_drewN ?_ _ | refine blk_drew ?_ | refine blk_alloc ?_ _)); exact BK9026.out)⟩; have n7_ : Aside0 (w107.heap[gb9033]? = some (.cells #[.int .i64 t9027, .int .i64 t9028, .int .i64 t9029, .slice Ao63 t9055.length co63] 28 (0, 0))) := ⟨by rw [← hq_]; exact (by (with_reducible repeat (first | refine blk_drewN ?_ _ | refine blk_drew ?_ | refine blk_alloc ?_ _)); exact BK9033.out)⟩; have n8_ : Aside0 (Below w.heap.size w w107) := ⟨by rw [← hq_]; exact (by repeat (first | (with_reducible first | exact HB.out | apply below_alloc | apply pw_below_drewN | apply below_drew1 | refine below_set ?_ GE9001.out | refine below_set ?_ GE9002.out | refine below_set ?_ GE9026.out | refine below_set ?_ GE9033.out) | exact HB.out))⟩; clear HO_6 HO_9 HO_9027003 HO_9034003 BK9001 BK9002 BK9026 BK9033 HB hq_; have HO_6 := n0_; have HO_9 := n1_; have HO_9027003 := n2_; have HO_9034003 := n3_; have BK9001 := n4_; have BK9002 := n5_; have BK9026 := n6_; have BK9033 := n7_; have HB := n8_; clear n0_ n1_ n2_ n3_ n4_ n5_ n6_ n7_ n8_))
                            have n0_ := Aside0.mk (Kd.R_drew HO_6.out)
                            have n1_ := Aside0.mk (Kd.R_drew HO_9.out)
                            have n2_ := Aside0.mk (Kd.R_drew HO_9027003.out)
                            have n3_ := Aside0.mk (Kd.R_drew HO_9034003.out)
                            have n4_ := Aside0.mk (blk_drew BK9001.out)
                            have n5_ := Aside0.mk (blk_drew BK9002.out)
                            have n6_ := Aside0.mk (blk_drew BK9026.out)
                            have n7_ := Aside0.mk (blk_drew BK9033.out)
                            have n8_ := Aside0.mk (below_drew1 HB.out)
                            clear HO_6
                            clear HO_9
                            clear HO_9027003
                            clear HO_9034003
                            clear BK9001
                            clear BK9002
                            clear BK9026
                            clear BK9033
                            clear HB
                            have HO_6 := n0_
                            have HO_9 := n1_
                            have HO_9027003 := n2_
                            have HO_9034003 := n3_
                            have BK9001 := n4_
                            have BK9002 := n5_
                            have BK9026 := n6_
                            have BK9033 := n7_
                            have HB := n8_
                            clear n0_ n1_ n2_ n3_ n4_ n5_ n6_ n7_ n8_
                            refine start_ (n := 6) (S := fun w' => w'.cell? ⟨gb9001, 0, none⟩ = some (.int .i64 a0_0) ∧ w'.cell? ⟨gb9001, 1, none⟩ = some (.int .i64 a0_1) ∧ w'.cell? ⟨gb9001, 2, none⟩ = some (.int .i64 a0_2) ∧ w'.cell? ⟨gb9001, 3, none⟩ = some (.slice A0_3 l0_3.length c0_3) ∧ w'.cell? ⟨gb9002, 0, none⟩ = some (.int .i64 a1_0) ∧ w'.cell? ⟨gb9002, 1, none⟩ = some (.int .i64 a1_1) ∧ w'.cell? ⟨gb9002, 2, none⟩ = some (.int .i64 a1_2) ∧ w'.cell? ⟨gb9002, 3, none⟩ = some (.slice A1_3 l1_3.length c1_3)) (ds := []) #[false, false, false, false, false, false] (by kernel_rfl) rfl rfl ⟨(blk_cell BK9001.out 0).trans rfl, (blk_cell BK9001.out 1).trans rfl, (blk_cell BK9001.out 2).trans rfl, (blk_cell BK9001.out 3).trans rfl, (blk_cell BK9002.out 0).trans rfl, (blk_cell BK9002.out 1).trans rfl, (blk_cell BK9002.out 2).trans rfl, (blk_cell BK9002.out 3).trans rfl⟩ (fun hHeld => ?_)
                            generalize w107.drew = w108 at HO_6 HO_9 HO_9027003 HO_9034003 BK9001 BK9002 BK9026 BK9033 HB hHeld ⊢
                            refine take_ (i := 0) (N := some 75) (v := ?_) (a' := ?_) #[true, false, false, false, false, false] rfl rfl (by kernel_rfl) (fun _ _ _ h => h) (Or.inl ⟨by rfl, ?_⟩) hHeld ?_ ?_
                            rotate_left
                            · rintro w' ⟨s0, s1, s2, s3, s4, s5, s6, s7⟩
                              go_simp
                              with_reducible rfl
                            rotate_left
                            · simp only [Act.put, List.setIfInBounds_toArray, List.set_cons_zero, List.set_cons_succ, i64_w, i32_w]
                              rfl
                            refine take_ (i := 2) (N := some 77) (v := ?_) (a' := ?_) #[true, false, true, false, false, false] rfl rfl (by kernel_rfl) (fun _ _ _ h => h) (Or.inl ⟨by rfl, ?_⟩) hHeld ?_ ?_
                            rotate_left
                            · rintro w' ⟨s0, s1, s2, s3, s4, s5, s6, s7⟩
                              go_simp
                              with_reducible rfl
                            rotate_left
                            · simp only [Act.put, List.setIfInBounds_toArray, List.set_cons_zero, List.set_cons_succ, i64_w, i32_w]
                              rfl
                            refine one_ (i := 1) (N := some 76) #[true, true, true, false, false, false] rfl rfl (by kernel_rfl) (by decide) (fun K hK => ?_)
                            refine goes_ Try.func13 (by kernel_rfl) rfl #[.agg #[.int .i64 a0_0, .int .i64 a0_1, .int .i64 a0_2, .slice A0_3 l0_3.length c0_3]] (by rfl) rfl rfl (by (try simp only [List.map_toArray, List.map_cons, List.map_nil]); first | done | rfl | (simp only [List.length_drop, List.length_take]; rfl)) ?_
                            with_reducible refine (laws_toImage.calls kj34 a0_0 a0_1 a0_2 _ _ l0_3 t9060 t9061 t9062 t9063 _ ?side1 ?side2 A90.out).mono ?_
                            (case side1 => repeat (first | exact (Kd.C_below HR0_3.out HB.out) | (with_reducible refine Kd.C_alloc ?_ _) | (with_reducible refine Kd.C_drewN ?_ _) | (with_reducible refine Kd.C_drew ?_)))
                            (case side2 => exact HC0_3.out)
                            rintro e w109 ⟨v9064, rfl, ho0, hb⟩
                            refine ⟨_, rfl, ?_⟩
                            have n0_ := Aside0.mk (Kd.R_below (by (with_reducible repeat (first | apply Kd.R_alloc | apply Kd.R_drewN | apply Kd.R_drew)); exact HO_6.out) hb)
                            have n1_ := Aside0.mk (Kd.R_below (by (with_reducible repeat (first | apply Kd.R_alloc | apply Kd.R_drewN | apply Kd.R_drew)); exact HO_9.out) hb)
                            have n2_ := Aside0.mk (Kd.R_elder' (by (with_reducible repeat (first | apply Kd.R_alloc | apply Kd.R_drewN | apply Kd.R_drew)); exact HO_9027003.out) (Kd.R_base ho0) hb)
                            have n3_ := Aside0.mk (Kd.R_elder' (by (with_reducible repeat (first | apply Kd.R_alloc | apply Kd.R_drewN | apply Kd.R_drew)); exact HO_9034003.out) (Kd.R_base ho0) hb)
                            have n4_ := Aside0.mk (Kd.R_lower (Kd.R_new' (Kd.R_new' ho0 (Kd.R_lt (by (with_reducible repeat (first | apply Kd.R_alloc | apply Kd.R_drewN | apply Kd.R_drew)); exact HO_9027003.out))) (Kd.R_lt (by (with_reducible repeat (first | apply Kd.R_alloc | apply Kd.R_drewN | apply Kd.R_drew)); exact HO_9034003.out))) (below_size (by repeat (first | (with_reducible first | exact HB.out | apply below_alloc | apply pw_below_drewN | apply below_drew1 | refine below_set ?_ GE9001.out | refine below_set ?_ GE9002.out | refine below_set ?_ GE9026.out | refine below_set ?_ GE9033.out) | exact HB.out))))
                            have n5_ := Aside0.mk (blk_below (g := gb9001) (o := .cells #[.int .i64 a0_0, .int .i64 a0_1, .int .i64 a0_2, .slice A0_3 l0_3.length c0_3] 24 (0, 0)) (by (with_reducible repeat (first | refine blk_drewN ?_ _ | refine blk_drew ?_ | refine blk_alloc ?_ _)); exact BK9001.out) hb)
                            have n6_ := Aside0.mk (blk_below (g := gb9002) (o := .cells #[.int .i64 a1_0, .int .i64 a1_1, .int .i64 a1_2, .slice A1_3 l1_3.length c1_3] 24 (0, 0)) (by (with_reducible repeat (first | refine blk_drewN ?_ _ | refine blk_drew ?_ | refine blk_alloc ?_ _)); exact BK9002.out) hb)
                            have n7_ := Aside0.mk (blk_below (g := gb9026) (o := .cells #[.int .i64 t9020, .int .i64 t9021, .int .i64 t9022, .slice Ao55 t9053.length co55] 28 (0, 0)) (by (with_reducible repeat (first | refine blk_drewN ?_ _ | refine blk_drew ?_ | refine blk_alloc ?_ _)); exact BK9026.out) hb)
                            have n8_ := Aside0.mk (blk_below (g := gb9033) (o := .cells #[.int .i64 t9027, .int .i64 t9028, .int .i64 t9029, .slice Ao63 t9055.length co63] 28 (0, 0)) (by (with_reducible repeat (first | refine blk_drewN ?_ _ | refine blk_drew ?_ | refine blk_alloc ?_ _)); exact BK9033.out) hb)
                            have n9_ := Aside0.mk (below_step (by repeat (first | (with_reducible first | exact HB.out | apply below_alloc | apply pw_below_drewN | apply below_drew1 | refine below_set ?_ GE9001.out | refine below_set ?_ GE9002.out | refine below_set ?_ GE9026.out | refine below_set ?_ GE9033.out) | exact HB.out)) hb)
                            clear HO_6
                            clear HO_9
                            clear HO_9027003
                            clear HO_9034003
                            clear BK9001
                            clear BK9002
                            clear BK9026
                            clear BK9033
                            clear HB
                            have HO_6 := n0_
                            have HO_9 := n1_
                            have HO_9027003 := n2_
                            have HO_9034003 := n3_
                            have HO9065 := n4_
                            have BK9001 := n5_
                            have BK9002 := n6_
                            have BK9026 := n7_
                            have BK9033 := n8_
                            have HB := n9_
                            clear n0_ n1_ n2_ n3_ n4_ n5_ n6_ n7_ n8_ n9_
                            (try clear hb)
                            (try clear hb2)
                            (try clear hk)
                            (try clear hi)
                            (try clear ho0)
                            refine hK.out _ _ ⟨(blk_cell BK9001.out 0).trans rfl, (blk_cell BK9001.out 1).trans rfl, (blk_cell BK9001.out 2).trans rfl, (blk_cell BK9001.out 3).trans rfl, (blk_cell BK9002.out 0).trans rfl, (blk_cell BK9002.out 1).trans rfl, (blk_cell BK9002.out 2).trans rfl, (blk_cell BK9002.out 3).trans rfl⟩ (fun hHeld => ?_)
                            clear hK K
                            refine norm_ (a' := ?_) ?_ ?_
                            rotate_left
                            · show Act.put _ (some 76) _ = _
                              simp only [Act.put, List.setIfInBounds_toArray, List.set_cons_zero, List.set_cons_succ, i64_w, i32_w]
                              rfl
                            refine one_ (i := 3) (N := some 78) #[true, true, true, true, false, false] rfl rfl (by kernel_rfl) (by decide) (fun K hK => ?_)
                            refine goes_ Try.func13 (by kernel_rfl) rfl #[.agg #[.int .i64 a1_0, .int .i64 a1_1, .int .i64 a1_2, .slice A1_3 l1_3.length c1_3]] (by rfl) rfl rfl (by (try simp only [List.map_toArray, List.map_cons, List.map_nil]); first | done | rfl | (simp only [List.length_drop, List.length_take]; rfl)) ?_
                            with_reducible refine (laws_toImage.calls kj34 a1_0 a1_1 a1_2 _ _ l1_3 t9066 t9067 t9068 t9069 _ ?side1 ?side2 A91.out).mono ?_
                            (case side1 => repeat (first | exact (Kd.C_below HR1_3.out HB.out) | (with_reducible refine Kd.C_alloc ?_ _) | (with_reducible refine Kd.C_drewN ?_ _) | (with_reducible refine Kd.C_drew ?_)))
                            (case side2 => exact HC1_3.out)
                            rintro e w110 ⟨v9070, rfl, ho0, hb⟩
                            refine ⟨_, rfl, ?_⟩
                            have n0_ := Aside0.mk (Kd.R_below (by (with_reducible repeat (first | apply Kd.R_alloc | apply Kd.R_drewN | apply Kd.R_drew)); exact HO_6.out) hb)
                            have n1_ := Aside0.mk (Kd.R_below (by (with_reducible repeat (first | apply Kd.R_alloc | apply Kd.R_drewN | apply Kd.R_drew)); exact HO_9.out) hb)
                            have n2_ := Aside0.mk (Kd.R_elder' (by (with_reducible repeat (first | apply Kd.R_alloc | apply Kd.R_drewN | apply Kd.R_drew)); exact HO_9027003.out) (Kd.R_base ho0) hb)
                            have n3_ := Aside0.mk (Kd.R_elder' (by (with_reducible repeat (first | apply Kd.R_alloc | apply Kd.R_drewN | apply Kd.R_drew)); exact HO_9034003.out) (Kd.R_base ho0) hb)
                            have n4_ := Aside0.mk (Kd.R_elder' (by (with_reducible repeat (first | apply Kd.R_alloc | apply Kd.R_drewN | apply Kd.R_drew)); exact HO9065.out) (Kd.R_base ho0) hb)
                            have n5_ := Aside0.mk (Kd.R_lower (Kd.R_new' (Kd.R_new' (Kd.R_new' ho0 (Kd.R_lt (by (with_reducible repeat (first | apply Kd.R_alloc | apply Kd.R_drewN | apply Kd.R_drew)); exact HO_9027003.out))) (Kd.R_lt (by (with_reducible repeat (first | apply Kd.R_alloc | apply Kd.R_drewN | apply Kd.R_drew)); exact HO_9034003.out))) (Kd.R_lt (by (with_reducible repeat (first | apply Kd.R_alloc | apply Kd.R_drewN | apply Kd.R_drew)); exact HO9065.out))) (below_size (by repeat (first | (with_reducible first | exact HB.out | apply below_alloc | apply pw_below_drewN | apply below_drew1 | refine below_set ?_ GE9001.out | refine below_set ?_ GE9002.out | refine below_set ?_ GE9026.out | refine below_set ?_ GE9033.out) | exact HB.out))))
                            have n6_ := Aside0.mk (blk_below (g := gb9001) (o := .cells #[.int .i64 a0_0, .int .i64 a0_1, .int .i64 a0_2, .slice A0_3 l0_3.length c0_3] 24 (0, 0)) (by (with_reducible repeat (first | refine blk_drewN ?_ _ | refine blk_drew ?_ | refine blk_alloc ?_ _)); exact BK9001.out) hb)
                            have n7_ := Aside0.mk (blk_below (g := gb9002) (o := .cells #[.int .i64 a1_0, .int .i64 a1_1, .int .i64 a1_2, .slice A1_3 l1_3.length c1_3] 24 (0, 0)) (by (with_reducible repeat (first | refine blk_drewN ?_ _ | refine blk_drew ?_ | refine blk_alloc ?_ _)); exact BK9002.out) hb)
                            have n8_ := Aside0.mk (blk_below (g := gb9026) (o := .cells #[.int .i64 t9020, .int .i64 t9021, .int .i64 t9022, .slice Ao55 t9053.length co55] 28 (0, 0)) (by (with_reducible repeat (first | refine blk_drewN ?_ _ | refine blk_drew ?_ | refine blk_alloc ?_ _)); exact BK9026.out) hb)
                            have n9_ := Aside0.mk (blk_below (g := gb9033) (o := .cells #[.int .i64 t9027, .int .i64 t9028, .int .i64 t9029, .slice Ao63 t9055.length co63] 28 (0, 0)) (by (with_reducible repeat (first | refine blk_drewN ?_ _ | refine blk_drew ?_ | refine blk_alloc ?_ _)); exact BK9033.out) hb)
                            have n10_ := Aside0.mk (below_step (by repeat (first | (with_reducible first | exact HB.out | apply below_alloc | apply pw_below_drewN | apply below_drew1 | refine below_set ?_ GE9001.out | refine below_set ?_ GE9002.out | refine below_set ?_ GE9026.out | refine below_set ?_ GE9033.out) | exact HB.out)) hb)
                            clear HO_6
                            clear HO_9
                            clear HO_9027003
                            clear HO_9034003
                            clear HO9065
                            clear BK9001
                            clear BK9002
                            clear BK9026
                            clear BK9033
                            clear HB
                            have HO_6 := n0_
                            have HO_9 := n1_
                            have HO_9027003 := n2_
                            have HO_9034003 := n3_
                            have HO9065 := n4_
                            have HO9071 := n5_
                            have BK9001 := n6_
                            have BK9002 := n7_
                            have BK9026 := n8_
                            have BK9033 := n9_
                            have HB := n10_
                            clear n0_ n1_ n2_ n3_ n4_ n5_ n6_ n7_ n8_ n9_ n10_
                            (try clear hb)
                            (try clear hb2)
                            (try clear hk)
                            (try clear hi)
                            (try clear ho0)
                            obtain ⟨Ao111, co111, eo111⟩ := Kd.R_slice HO9065.out
                            (first | subst eo111 | (injection eo111 with f1_ f2_ f3_; have f4_ := f1_.symm; have f5_ := f3_.symm; clear f1_ f2_ f3_; subst f4_; subst f5_))
                            obtain ⟨Ao112, co112, eo112⟩ := Kd.R_slice HO9071.out
                            (first | subst eo112 | (injection eo112 with f1_ f2_ f3_; have f4_ := f1_.symm; have f5_ := f3_.symm; clear f1_ f2_ f3_; subst f4_; subst f5_))
                            refine hK.out _ _ ⟨(blk_cell BK9001.out 0).trans rfl, (blk_cell BK9001.out 1).trans rfl, (blk_cell BK9001.out 2).trans rfl, (blk_cell BK9001.out 3).trans rfl, (blk_cell BK9002.out 0).trans rfl, (blk_cell BK9002.out 1).trans rfl, (blk_cell BK9002.out 2).trans rfl, (blk_cell BK9002.out 3).trans rfl⟩ (fun hHeld => ?_)
                            clear hK K
                            refine norm_ (a' := ?_) ?_ ?_
                            rotate_left
                            · show Act.put _ (some 78) _ = _
                              simp only [Act.put, List.setIfInBounds_toArray, List.set_cons_zero, List.set_cons_succ, i64_w, i32_w]
                              rfl
                            refine one_ (i := 4) (N := some 79) #[true, true, true, true, true, false] rfl rfl (by kernel_rfl) (by decide) (fun K hK => ?_)
                            refine goes_ Try.func33 (by kernel_rfl) rfl #[.agg #[.int .i64 t9060, .int .i64 t9061, .int .i64 t9062, .slice Ao111 t9063.length co111], .agg #[.int .i64 t9066, .int .i64 t9067, .int .i64 t9068, .slice Ao112 t9069.length co112]] (by rfl) rfl rfl (by (try simp only [List.map_toArray, List.map_cons, List.map_nil]); first | done | rfl | (simp only [List.length_drop, List.length_take]; rfl)) ?_
                            with_reducible refine (impl_ChangedBoxes.calls t9060 t9061 t9062 _ _ t9063 t9066 t9067 t9068 _ _ t9069 t9072 _ ?side1 ?side2 ?side3 ?side4 A92.out).mono ?_
                            (case side1 => repeat (first | exact (Kd.R_reads' HO9065.out).2.2 | (with_reducible refine Kd.C_alloc ?_ _) | (with_reducible refine Kd.C_drewN ?_ _) | (with_reducible refine Kd.C_drew ?_)))
                            (case side2 => exact (Kd.R_reads' HO9065.out).2.1)
                            (case side3 => repeat (first | exact (Kd.R_reads' HO9071.out).2.2 | (with_reducible refine Kd.C_alloc ?_ _) | (with_reducible refine Kd.C_drewN ?_ _) | (with_reducible refine Kd.C_drew ?_)))
                            (case side4 => exact (Kd.R_reads' HO9071.out).2.1)
                            rintro e w113 ⟨v9073, rfl, ho0, hb⟩
                            refine ⟨_, rfl, ?_⟩
                            have n0_ := Aside0.mk (Kd.R_elder' (by (with_reducible repeat (first | apply Kd.R_alloc | apply Kd.R_drewN | apply Kd.R_drew)); exact HO_6.out) (Kd.R_base ho0) hb)
                            have n1_ := Aside0.mk (Kd.R_elder' (by (with_reducible repeat (first | apply Kd.R_alloc | apply Kd.R_drewN | apply Kd.R_drew)); exact HO_9.out) (Kd.R_base ho0) hb)
                            have n2_ := Aside0.mk (Kd.R_below (by (with_reducible repeat (first | apply Kd.R_alloc | apply Kd.R_drewN | apply Kd.R_drew)); exact HO_9027003.out) hb)
                            have n3_ := Aside0.mk (Kd.R_below (by (with_reducible repeat (first | apply Kd.R_alloc | apply Kd.R_drewN | apply Kd.R_drew)); exact HO_9034003.out) hb)
                            have n4_ := Aside0.mk (Kd.R_below (by (with_reducible repeat (first | apply Kd.R_alloc | apply Kd.R_drewN | apply Kd.R_drew)); exact HO9065.out) hb)
                            have n5_ := Aside0.mk (Kd.R_below (by (with_reducible repeat (first | apply Kd.R_alloc | apply Kd.R_drewN | apply Kd.R_drew)); exact HO9071.out) hb)
                            have n6_ := Aside0.mk (Kd.R_lower (Kd.R_new' (Kd.R_new' ho0 (Kd.R_lt (by (with_reducible repeat (first | apply Kd.R_alloc | apply Kd.R_drewN | apply Kd.R_drew)); exact HO_6.out))) (Kd.R_lt (by (with_reducible repeat (first | apply Kd.R_alloc | apply Kd.R_drewN | apply Kd.R_drew)); exact HO_9.out))) (below_size (by repeat (first | (with_reducible first | exact HB.out | apply below_alloc | apply pw_below_drewN | apply below_drew1 | refine below_set ?_ GE9001.out | refine below_set ?_ GE9002.out | refine below_set ?_ GE9026.out | refine below_set ?_ GE9033.out) | exact HB.out))))
                            have n7_ := Aside0.mk (blk_below (g := gb9001) (o := .cells #[.int .i64 a0_0, .int .i64 a0_1, .int .i64 a0_2, .slice A0_3 l0_3.length c0_3] 24 (0, 0)) (by (with_reducible repeat (first | refine blk_drewN ?_ _ | refine blk_drew ?_ | refine blk_alloc ?_ _)); exact BK9001.out) hb)
                            have n8_ := Aside0.mk (blk_below (g := gb9002) (o := .cells #[.int .i64 a1_0, .int .i64 a1_1, .int .i64 a1_2, .slice A1_3 l1_3.length c1_3] 24 (0, 0)) (by (with_reducible repeat (first | refine blk_drewN ?_ _ | refine blk_drew ?_ | refine blk_alloc ?_ _)); exact BK9002.out) hb)
                            have n9_ := Aside0.mk (blk_below (g := gb9026) (o := .cells #[.int .i64 t9020, .int .i64 t9021, .int .i64 t9022, .slice Ao55 t9053.length co55] 28 (0, 0)) (by (with_reducible repeat (first | refine blk_drewN ?_ _ | refine blk_drew ?_ | refine blk_alloc ?_ _)); exact BK9026.out) hb)
                            have n10_ := Aside0.mk (blk_below (g := gb9033) (o := .cells #[.int .i64 t9027, .int .i64 t9028, .int .i64 t9029, .slice Ao63 t9055.length co63] 28 (0, 0)) (by (with_reducible repeat (first | refine blk_drewN ?_ _ | refine blk_drew ?_ | refine blk_alloc ?_ _)); exact BK9033.out) hb)
                            have n11_ := Aside0.mk (below_step (by repeat (first | (with_reducible first | exact HB.out | apply below_alloc | apply pw_below_drewN | apply below_drew1 | refine below_set ?_ GE9001.out | refine below_set ?_ GE9002.out | refine below_set ?_ GE9026.out | refine below_set ?_ GE9033.out) | exact HB.out)) hb)
                            clear HO_6
                            clear HO_9
                            clear HO_9027003
                            clear HO_9034003
                            clear HO9065
                            clear HO9071
                            clear BK9001
                            clear BK9002
                            clear BK9026
                            clear BK9033
                            clear HB
                            have HO_6 := n0_
                            have HO_9 := n1_
                            have HO_9027003 := n2_
                            have HO_9034003 := n3_
                            have HO9065 := n4_
                            have HO9071 := n5_
                            have HO9074 := n6_
                            have BK9001 := n7_
                            have BK9002 := n8_
                            have BK9026 := n9_
                            have BK9033 := n10_
                            have HB := n11_
                            clear n0_ n1_ n2_ n3_ n4_ n5_ n6_ n7_ n8_ n9_ n10_ n11_
                            (try clear hb)
                            (try clear hb2)
                            (try clear hk)
                            (try clear hi)
                            (try clear ho0)
                            refine hK.out _ _ ⟨(blk_cell BK9001.out 0).trans rfl, (blk_cell BK9001.out 1).trans rfl, (blk_cell BK9001.out 2).trans rfl, (blk_cell BK9001.out 3).trans rfl, (blk_cell BK9002.out 0).trans rfl, (blk_cell BK9002.out 1).trans rfl, (blk_cell BK9002.out 2).trans rfl, (blk_cell BK9002.out 3).trans rfl⟩ (fun hHeld => ?_)
                            clear hK K
                            refine norm_ (a' := ?_) ?_ ?_
                            rotate_left
                            · show Act.put _ (some 79) _ = _
                              simp only [Act.put, List.setIfInBounds_toArray, List.set_cons_zero, List.set_cons_succ, i64_w, i32_w]
                              rfl
                            refine pure_ (i := 5) (N := some 13) (v := ?_) (a' := ?_) #[true, true, true, true, true, true] rfl rfl (by kernel_rfl) (fun _ _ _ h => h) (Or.inl ⟨by rfl, ?_⟩) ?_ ?_
                            rotate_left
                            · intro w'
                              go_simp
                              with_reducible rfl
                            rotate_left
                            · simp only [Act.put, List.setIfInBounds_toArray, List.set_cons_zero, List.set_cons_succ, i64_w, i32_w]
                              rfl
                            refine done_ (by kernel_rfl) ?_
                            obtain ⟨Ao114, co114, eo114⟩ := Kd.R_slice HO9074.out
                            subst eo114
                            try go_wp2_with (first | ((with_reducible refine gate_callee (f := 34) rfl ?_); refine goesL_ (some 82) rfl rfl Try.func34 (by kernel_rfl) rfl #[.slice Ao114 t9072.length co114, .slice Ao67 t9017.length co67] rfl (by (try simp only [List.map_toArray, List.map_cons, List.map_nil]); first | done | rfl | (simp only [List.length_drop, List.length_take]; rfl)) ?_; (with_reducible refine (laws_eqBoxS.calls kj34 _ _ t9072 _ _ t9017 true _ ?side1 ?side2 ?side3 ?side4 A93.out).mono ?_); (case side1 => repeat (first | exact (Kd.R_reads' HO9074.out).2.2 | (with_reducible refine Kd.C_alloc ?_ _) | (with_reducible refine Kd.C_drewN ?_ _) | (with_reducible refine Kd.C_drew ?_))); (case side2 => exact (Kd.R_reads' HO9074.out).2.1); (case side3 => repeat (first | exact (Kd.R_reads' HO_6.out).2.2 | (with_reducible refine Kd.C_alloc ?_ _) | (with_reducible refine Kd.C_drewN ?_ _) | (with_reducible refine Kd.C_drew ?_))); (case side4 => exact (Kd.R_reads' HO_6.out).2.1); rintro e w115 ⟨rfl, hb⟩; refine ⟨_, rfl, ?_⟩; have n0_ := Aside0.mk (Kd.R_below (by (with_reducible repeat (first | apply Kd.R_alloc | apply Kd.R_drewN | apply Kd.R_drew)); exact HO_6.out) hb); have n1_ := Aside0.mk (Kd.R_below (by (with_reducible repeat (first | apply Kd.R_alloc | apply Kd.R_drewN | apply Kd.R_drew)); exact HO_9.out) hb); have n2_ := Aside0.mk (Kd.R_below (by (with_reducible repeat (first | apply Kd.R_alloc | apply Kd.R_drewN | apply Kd.R_drew)); exact HO_9027003.out) hb); have n3_ := Aside0.mk (Kd.R_below (by (with_reducible repeat (first | apply Kd.R_alloc | apply Kd.R_drewN | apply Kd.R_drew)); exact HO_9034003.out) hb); have n4_ := Aside0.mk (Kd.R_below (by (with_reducible repeat (first | apply Kd.R_alloc | apply Kd.R_drewN | apply Kd.R_drew)); exact HO9065.out) hb); have n5_ := Aside0.mk (Kd.R_below (by (with_reducible repeat (first | apply Kd.R_alloc | apply Kd.R_drewN | apply Kd.R_drew)); exact HO9071.out) hb); have n6_ := Aside0.mk (Kd.R_below (by (with_reducible repeat (first | apply Kd.R_alloc | apply Kd.R_drewN | apply Kd.R_drew)); exact HO9074.out) hb); have n7_ := Aside0.mk (blk_below (g := gb9001) (o := .cells #[.int .i64 a0_0, .int .i64 a0_1, .int .i64 a0_2, .slice A0_3 l0_3.length c0_3] 24 (0, 0)) (by (with_reducible repeat (first | refine blk_drewN ?_ _ | refine blk_drew ?_ | refine blk_alloc ?_ _)); exact BK9001.out) hb); have n8_ := Aside0.mk (blk_below (g := gb9002) (o := .cells #[.int .i64 a1_0, .int .i64 a1_1, .int .i64 a1_2, .slice A1_3 l1_3.length c1_3] 24 (0, 0)) (by (with_reducible repeat (first | refine blk_drewN ?_ _ | refine blk_drew ?_ | refine blk_alloc ?_ _)); exact BK9002.out) hb); have n9_ := Aside0.mk (blk_below (g := gb9026) (o := .cells #[.int .i64 t9020, .int .i64 t9021, .int .i64 t9022, .slice Ao55 t9053.length co55] 28 (0, 0)) (by (with_reducible repeat (first | refine blk_drewN ?_ _ | refine blk_drew ?_ | refine blk_alloc ?_ _)); exact BK9026.out) hb); have n10_ := Aside0.mk (blk_below (g := gb9033) (o := .cells #[.int .i64 t9027, .int .i64 t9028, .int .i64 t9029, .slice Ao63 t9055.length co63] 28 (0, 0)) (by (with_reducible repeat (first | refine blk_drewN ?_ _ | refine blk_drew ?_ | refine blk_alloc ?_ _)); exact BK9033.out) hb); have n11_ := Aside0.mk (below_step (by repeat (first | (with_reducible first | exact HB.out | apply below_alloc | apply pw_below_drewN | apply below_drew1 | refine below_set ?_ GE9001.out | refine below_set ?_ GE9002.out | refine below_set ?_ GE9026.out | refine below_set ?_ GE9033.out) | exact HB.out)) hb); clear HO_6; clear HO_9; clear HO_9027003; clear HO_9034003; clear HO9065; clear HO9071; clear HO9074; clear BK9001; clear BK9002; clear BK9026; clear BK9033; clear HB; have HO_6 := n0_; have HO_9 := n1_; have HO_9027003 := n2_; have HO_9034003 := n3_; have HO9065 := n4_; have HO9071 := n5_; have HO9074 := n6_; have BK9001 := n7_; have BK9002 := n8_; have BK9026 := n9_; have BK9033 := n10_; have HB := n11_; clear n0_ n1_ n2_ n3_ n4_ n5_ n6_ n7_ n8_ n9_ n10_ n11_; (try clear hb); (try clear hb2); (try clear hk); (try clear hi)) | ((with_reducible refine gate_callee (f := 36) rfl ?_); refine goesL_ (some 86) rfl rfl Try.func36 (by kernel_rfl) rfl #[.slice Ao66 t9058.length co66, .int .i64 1] rfl (by (try simp only [List.map_toArray, List.map_cons, List.map_nil]); first | done | (rw [show t9058.length = t9034.length from (Kd.R_reads' HO_9.out).1.symm] <;> rfl) | rfl | (simp only [List.length_drop, List.length_take]; rfl)) ?_; (with_reducible refine (laws_heldBoxS.calls kj34 _ _ t9058 1 t9076 _ ?side1 ?side2 A95.out).mono ?_); (case side1 => repeat (first | exact (Kd.R_reads' HO_9.out).2.2 | (with_reducible refine Kd.C_alloc ?_ _) | (with_reducible refine Kd.C_drewN ?_ _) | (with_reducible refine Kd.C_drew ?_))); (case side2 => rw [show t9058.length = t9034.length from (Kd.R_reads' HO_9.out).1.symm]; exact (Kd.R_reads' HO_9.out).2.1); rintro e w' ⟨rfl, ⟨nd, rfl⟩⟩; refine ⟨_, rfl, ?_⟩))
                            go_ret
                            exact ⟨by first | rfl | (simp [errW_none, errW_some] <;> rfl) | (simp [*, errW_none, errW_some] <;> rfl), by repeat (first | (with_reducible first | exact HB.out | apply below_alloc | apply pw_below_drewN | apply below_drew1 | refine below_set ?_ GE9001.out | refine below_set ?_ GE9002.out | refine below_set ?_ GE9026.out | refine below_set ?_ GE9033.out) | exact HB.out)⟩
                          · rw [if_neg c106] at H
                            have c106b0 : (t9076 == t9057) = false := beq_eq_false_iff_ne.mpr c106
                            have c106b1 : (t9076 != t9057) = true := bne_iff_ne.mpr c106
                            exact absurd ((Option.some.inj H).trans HRT.out) (by decide)
                      · replace c94 := Bool.eq_false_iff.mpr c94
                        subst c94
                        have H1 : (some false) = some r := by rw [if_neg (show ¬ (false = true) by decide)] at H; exact H
                        clear H
                        have H := H1
                        clear H1
                        exact absurd ((Option.some.inj H).trans HRT.out) (by decide)
                    · rw [if_neg c89] at H
                      have c89b0 : (t9059 == t9057) = false := beq_eq_false_iff_ne.mpr c89
                      have c89b1 : (t9059 != t9057) = true := bne_iff_ne.mpr c89
                      exact absurd ((Option.some.inj H).trans HRT.out) (by decide)
          · replace c32 := Bool.eq_false_iff.mpr c32
            subst c32
            have H1 : (some false) = some r := by rw [if_neg (show ¬ (false = true) by decide)] at H; exact H
            clear H
            have H := H1
            clear H1
            exact absurd ((Option.some.inj H).trans HRT.out) (by decide)
        · replace c29 := Bool.eq_false_iff.mpr c29
          subst c29
          have H1 : (some false) = some r := by rw [if_neg (show ¬ (false = true) by decide)] at H; exact H
          clear H
          have H := H1
          clear H1
          exact absurd ((Option.some.inj H).trans HRT.out) (by decide)
      · replace c26 := Bool.eq_false_iff.mpr c26
        subst c26
        have H1 : (some false) = some r := by rw [if_neg (show ¬ (false = true) by decide)] at H; exact H
        clear H
        have H := H1
        clear H1
        exact absurd ((Option.some.inj H).trans HRT.out) (by decide)

end Go.Proofs.Ytbgohbinonkhfaa.Q

/- What an argument's reading as data tells: numbers, bools, slices and structs of them, by their kinds. -/
namespace Go.Proofs.Ytbgohbinonkhfaa.Q
open Go.RowKit Go.Proofs.YtbgohbinonkhfaaW.PrintWords Go.Proofs.YtbgohbinonkhfaaW.PrintLast Go.Proofs.YtbgohbinonkhfaaW.PrintMore
attribute [local go_sem] max2_int min2_int max_two min_two max_three min_three max_four min_four
set_option linter.unusedVariables false
set_option linter.unusedSimpArgs false
open Go.ChangeShapes Go.WideShapes Go.Deep

/-- A number of 64 bits. -/
def I64 (n : Int) : Prop := -9223372036854775808 ≤ n ∧ n ≤ 9223372036854775807
theorem i64_of (n : Int) (h : (Lit.int .i64 n).wf = true) : I64 n := by
  simp only [Lit.wf, Bool.and_eq_true, decide_eq_true_eq] at h
  have e1 : IntKind.min .i64 = -9223372036854775808 := by decide
  have e2 : IntKind.max .i64 = 9223372036854775807 := by decide
  unfold I64
  omega
/-- Whatever reads at type t as data is a y of this kind, of which Q holds. -/
def Opens {α : Type} (P : Program) (t : TypeId) (d : Kd α) (Q : α → Prop) : Prop :=
  ∀ (H : Type) (enc : TypeId × Value → H) (w : World) (fuel : Nat) (cs : List Value) (x : DataW H × List MemPlace),
    DataW.trod enc P w 0 (fun _ => true) true fuel t cs = some x → ∃ y : α, d.K w y cs ∧ Q y
section
variable {P : Program} {t : TypeId} {α β : Type}
theorem opens_i64 (ht : P.underlying t = some (.int .i64)) : Opens P t (Kd.int .i64) I64 := by
  intro H enc w fuel cs x h
  obtain ⟨n, rfl, _, hw⟩ := DataW.trod_int ht h
  exact ⟨n, rfl, i64_of n hw⟩
theorem opens_bool (ht : P.underlying t = some .bool) : Opens P t Kd.bool (fun _ => True) := by
  intro H enc w fuel cs x h
  obtain ⟨b, rfl, _⟩ := DataW.trod_bool ht h
  exact ⟨b, rfl, trivial⟩
theorem opens_slice {e : TypeId} {d : Kd α} {Q : α → Prop} (ht : P.underlying t = some (.slice e)) (hc : P.cellsOf e = d.sz) (ho : Opens P e d Q) :
    Opens P t (Kd.slice e d) (fun l => ∀ x ∈ l, Q x) := by
  intro H enc w fuel cs x h
  rcases open_slice ht h with ⟨rfl, _⟩ | ⟨a, len, cap, m, n, D, Pl, rfl, _, hl, hm, hmm, _, hi⟩
  · exact ⟨[], ⟨none, 0, rfl, Nat.le_refl _, rfl, by simp, fun h0 => absurd h0 (by simp)⟩, fun x hx => absurd hx (by simp)⟩
  · have hmc : m = cap := by simpa using hmm
    subst hmc
    have each : ∀ i, i < len → ∃ y : α, (∃ c, c.length = d.sz ∧ d.K w y c ∧ ∀ j u, c[j]? = some u → w.cell? (a.add (i * d.sz + j)) = some u) ∧ Q y := by
      intro i hil
      obtain ⟨cs', hcs, htr⟩ := hi i (by omega)
      rw [hc] at hcs
      obtain ⟨_, hcl, hat⟩ := World.cells?_some hcs
      obtain ⟨y, hK, hQ⟩ := ho H enc w n cs' _ htr
      refine ⟨y, ⟨cs', hcl, hK, fun j u hu => ?_⟩, hQ⟩
      have hj : j < d.sz := by rw [← hcl]; exact (List.getElem?_eq_some_iff.1 hu).1
      rw [← Go.Deep.add_add, hat j hj, hu]
    have hY : ∃ ys : List α, ys.length = len ∧ ∀ i, i < len → ∃ y, ys[i]? = some y ∧ (∃ c, c.length = d.sz ∧ d.K w y c ∧ ∀ j u, c[j]? = some u → w.cell? (a.add (i * d.sz + j)) = some u) ∧ Q y := by
      have key : ∀ q, q ≤ len → ∃ ys : List α, ys.length = q ∧ ∀ i, i < q → ∃ y, ys[i]? = some y ∧ (∃ c, c.length = d.sz ∧ d.K w y c ∧ ∀ j u, c[j]? = some u → w.cell? (a.add (i * d.sz + j)) = some u) ∧ Q y := by
        intro q
        induction q with
        | zero => intro _; exact ⟨[], rfl, fun i hi' => absurd hi' (by omega)⟩
        | succ q ih =>
          intro hq
          obtain ⟨ys, hyl, hys⟩ := ih (by omega)
          obtain ⟨y, hy⟩ := each q (by omega)
          refine ⟨ys ++ [y], by simp [hyl], fun i hi' => ?_⟩
          by_cases e : i = q
          · subst e
            exact ⟨y, by rw [List.getElem?_append_right (by omega)]; simp [hyl], hy⟩
          · obtain ⟨z, hz, hz2⟩ := hys i (by omega)
            exact ⟨z, by rw [List.getElem?_append_left (by omega)]; exact hz, hz2⟩
      exact key len (Nat.le_refl _)
    obtain ⟨ys, hyl, hys⟩ := hY
    refine ⟨ys, ⟨some a, m, by rw [hyl], by omega, rfl, by rw [hyl]; simp only [maxLen] at hm; omega, fun _ => ⟨a, rfl, fun j p hj => ?_⟩⟩, fun x hx => ?_⟩
    · have hjl : j < len := by rw [← hyl]; exact (List.getElem?_eq_some_iff.1 hj).1
      obtain ⟨y, hy, hc2, _⟩ := hys j hjl
      rw [hy] at hj
      obtain rfl := Option.some.inj hj
      exact hc2
    · obtain ⟨j, hj, rfl⟩ := List.getElem_of_mem hx
      obtain ⟨y, hy, _, hq⟩ := hys j (by omega)
      rw [List.getElem?_eq_getElem hj] at hy
      obtain rfl := Option.some.inj hy
      exact hq
/-- Fields in line, from the cell 'off' on. -/
def OpensF (P : Program) (fs : List Field) (off : Nat) (d : Kd α) (Q : α → Prop) : Prop :=
  ∀ (H : Type) (enc : TypeId × Value → H) (w : World) (n : Nat) (cs : List Value), cs.length = off + d.sz →
    (∀ f ∈ fs, ∃ x, DataW.trod enc P w 0 (fun _ => true) true n f.type ((cs.drop f.offset).take (P.cellsOf f.type)) = some x) → ∃ y : α, d.K w y (cs.drop off) ∧ Q y
theorem opensF_one {f : Field} {off : Nat} {d : Kd α} {Q : α → Prop} (ho : f.offset = off) (hc : P.cellsOf f.type = d.sz) (h : Opens P f.type d Q) : OpensF P [f] off d Q := by
  intro H enc w n cs hl hf
  obtain ⟨x, hx⟩ := hf f (by simp)
  rw [ho, hc, List.take_of_length_le (by rw [List.length_drop]; omega)] at hx
  exact h H enc w n _ _ hx
theorem opensF_cons {f : Field} {fs : List Field} {off : Nat} {d : Kd α} {Q : α → Prop} {d' : Kd β} {Q' : β → Prop} (ho : f.offset = off) (hc : P.cellsOf f.type = d.sz) (h : Opens P f.type d Q) (h' : OpensF P fs (off + d.sz) d' Q') :
    OpensF P (f :: fs) off (Kd.pair d d') (fun p => Q p.1 ∧ Q' p.2) := by
  intro H enc w n cs hl hf
  have hl' : cs.length = off + (d.sz + d'.sz) := hl
  obtain ⟨x, hx⟩ := hf f (by simp)
  rw [ho, hc] at hx
  obtain ⟨y, hK, hQ⟩ := h H enc w n _ _ hx
  obtain ⟨y', hK', hQ'⟩ := h' H enc w n cs (by omega) (fun g hg => hf g (by simp [hg]))
  refine ⟨(y, y'), ⟨(cs.drop off).take d.sz, cs.drop (off + d.sz), ?_, hK, hK'⟩, hQ, hQ'⟩
  rw [← List.drop_drop, List.take_append_drop]
theorem opens_struct {fs : Array Field} {d : Kd α} {Q : α → Prop} (ht : P.underlying t = some (.struct fs)) (hc : P.cellsOf t = d.sz) (h : OpensF P fs.toList 0 d Q) : Opens P t d Q := by
  intro H enc w fuel cs x hx
  obtain ⟨xs, n, _, _, hcl, hxl, hg⟩ := DataW.trod_struct ht hx
  obtain ⟨y, hK, hQ⟩ := h H enc w n cs (by omega) (fun f hf => by
    obtain ⟨i, hi, rfl⟩ := List.getElem_of_mem hf
    have hi' : i < fs.size := by simpa using hi
    have h1 := hg i (fs.toList[i]) (by simp [hi'])
    rw [List.getElem?_eq_getElem (by omega)] at h1
    exact ⟨_, h1⟩)
  exact ⟨y, by simpa using hK, hQ⟩
theorem opens_iso {d : Kd α} {Q : α → Prop} (f : β → α) (g : α → β) (hfg : ∀ a, f (g a) = a) (h : Opens P t d Q) : Opens P t (Kd.iso d f) (fun b => Q (f b)) := by
  intro H enc w fuel cs x hx
  obtain ⟨y, hK, hQ⟩ := h H enc w fuel cs x hx
  refine ⟨g y, ?_, ?_⟩
  · show d.K w (f (g y)) cs
    rw [hfg]; exact hK
  · show Q (f (g y))
    rw [hfg]; exact hQ
end
end Go.Proofs.Ytbgohbinonkhfaa.Q

/- What is known of structs that came in. -/
namespace Go.Proofs.Ytbgohbinonkhfaa.Q
open Go.RowKit Go.Proofs.YtbgohbinonkhfaaW.PrintWords Go.Proofs.YtbgohbinonkhfaaW.PrintLast Go.Proofs.YtbgohbinonkhfaaW.PrintMore
attribute [local go_sem] max2_int min2_int max_two min_two max_three min_three max_four min_four
set_option linter.unusedVariables false
set_option linter.unusedSimpArgs false
def wf24 (x : S24) : Prop := I64 x.f0 ∧ I64 x.f1 ∧ I64 x.f2 ∧ (∀ y ∈ x.f3, I64 y)
theorem o24 : Opens Try.prog 24 k24 wf24 :=
  opens_iso (fun x : S24 => (x.f0, x.f1, x.f2, x.f3)) (fun p => (⟨p.1, p.2.1, p.2.2.1, p.2.2.2⟩ : S24)) (fun _ => rfl) (opens_struct Try.underlying24 (by kernel_rfl) (opensF_cons rfl (by kernel_rfl) (opens_i64 Try.underlying3) (opensF_cons rfl (by kernel_rfl) (opens_i64 Try.underlying3) (opensF_cons rfl (by kernel_rfl) (opens_i64 Try.underlying3) (opensF_one rfl (by kernel_rfl) (opens_slice Try.underlying22 (by kernel_rfl) (opens_i64 Try.underlying3)))))))
end Go.Proofs.Ytbgohbinonkhfaa.Q

/- The statement over plain lists and numbers that is left of the law FnExactChangedBoxes. -/
namespace Go.Proofs.Ytbgohbinonkhfaa.Q
open Go.RowKit Go.Proofs.YtbgohbinonkhfaaW.PrintWords Go.Proofs.YtbgohbinonkhfaaW.PrintLast Go.Proofs.YtbgohbinonkhfaaW.PrintMore
attribute [local go_sem] max2_int min2_int max_two min_two max_three min_three max_four min_four
set_option linter.unusedVariables false
set_option linter.unusedSimpArgs false
def laws_FnExactChangedBoxes.Pure : Prop := ∀ (a0_0 : Int) (a0_1 : Int) (a0_2 : Int) (l0_3 : List Int) (a1_0 : Int) (a1_1 : Int) (a1_2 : Int) (l1_3 : List Int), I64 a0_0 → I64 a0_1 → I64 a0_2 → (∀ y ∈ l0_3, I64 y) → l0_3.length ≤ 9223372036854775807 → I64 a1_0 → I64 a1_1 → I64 a1_2 → (∀ y ∈ l1_3, I64 y) → l1_3.length ≤ 9223372036854775807 → ∃ k, laws_FnExactChangedBoxes.f k a0_0 a0_1 a0_2 l0_3 a1_0 a1_1 a1_2 l1_3 = some true
end Go.Proofs.Ytbgohbinonkhfaa.Q

/- The pixels at which two images differ, as the program and the reference have them. -/
namespace Go.Proofs.Ytbgohbinonkhfaa.Pure
open Go.RowKit Go.Proofs.Ytbgohbinonkhfaa.Q Go.Proofs.YtbgohbinonkhfaaW.PrintWords Go.Proofs.YtbgohbinonkhfaaW.PrintLast Go.Proofs.YtbgohbinonkhfaaW.PrintMore
set_option linter.unusedVariables false
set_option linter.unusedSimpArgs false

theorem copyInts_eq (l : List Int) (hl : l.length ≤ 1000000) : spec_copyInts.f l = some l := by
  unfold spec_copyInts.f
  simp only [Option.bind_some]
  rw [if_pos (by simp; omega)]
  simp
theorem spec_pixelAt_eq {a b p : Int} {d : List Int} (hv : validI a b p d = true) {x y : Nat} (hx : (x : Int) < a) (hy : (y : Int) < b) : spec_pixelAt.f a b p d (x : Int) (y : Int) = some (pixT d (pixJ a p x y) p) := by
  have h := pixJ_is hv hx hy
  have hh := (validI_iff a b p d).1 hv
  have hp := shape_prod hh.1
  have e : wrap64 ((wrap64 ((wrap64 ((y : Int) * a)) + (x : Int))) * p) = pixJ a p x y := rfl
  unfold spec_pixelAt.f
  rw [e]
  generalize pixJ a p x y = j at *
  have hw : wrap64 (j + p) = j + p := w64 (by omega) (by omega)
  rw [if_pos (by omega), if_pos (by omega), if_pos (by omega)]
  have hl := pixT_len d j p
  show (spec_copyInts.f (pixT d j p)).bind _ = _
  rw [copyInts_eq _ (by omega)]
  rfl
theorem spec_equalInts_ev (l m : List Int) (hl : l.length ≤ 1000000) : Ev (fun k => spec_equalInts.f k l m) (decide (l = m)) := by
  unfold spec_equalInts.f
  by_cases hn : l.length = m.length
  · have key := ev_up l.length (fun k i (_ : Unit) => spec_equalInts.l0 k l m (i : Int)) (fun _ _ => True) (fun i _ => decide (l.drop i = m.drop i))
      (by
        intro i s hi _
        have e1 := List.drop_eq_getElem_cons hi
        have e2 := List.drop_eq_getElem_cons (show i < m.length by omega)
        by_cases c : l[i] = m[i]'(by omega)
        · refine .inr ⟨(), fun k => ?_, trivial, ?_⟩
          · simp only [spec_equalInts.l0]
            rw [if_pos (by omega), if_pos (by omega), if_pos (by omega), rd_nat l i hi, rd_nat m i (by omega), if_pos c, w64n i (by omega)]
          · rw [e1, e2, decide_eq_decide, List.cons.injEq]
            exact ⟨fun h => ⟨c, h⟩, fun h => h.2⟩
        · left
          rw [e1, e2, decide_eq_false (by rw [List.cons.injEq]; exact fun h => c h.1)]
          refine Ev.step (f := fun _ => some false) (fun k => ?_) (Ev.now _)
          simp only [spec_equalInts.l0]
          rw [if_pos (by omega), if_pos (by omega), if_pos (by omega), rd_nat l i hi, rd_nat m i (by omega), if_neg c])
      (by
        intro s _
        refine Ev.step (f := fun _ => some true) (fun k => ?_) (ev_const (by rw [List.drop_length, hn, List.drop_length]; rfl))
        simp only [spec_equalInts.l0]
        rw [if_neg (by omega)])
      l.length 0 () (by omega) trivial
    exact ev_pos (by omega) (by simpa using key)
  · refine ev_neg (by omega) ?_
    rw [decide_eq_false (fun h => hn (by rw [h]))]
    exact Ev.now _
/-- what has been looked at ahead of column x of row y -/
def upG (f : Nat → Nat → Bool) (y x q : Nat) : Bool := decide (q / 16 < y ∨ (q / 16 = y ∧ q % 16 < x)) && f (q % 16) (q / 16)
theorem upG_set (f : Nat → Nat → Bool) (y x q : Nat) (hx : x < 16) : (if q = y * 16 + x then f x y else upG f y x q) = upG f y (x + 1) q := by
  unfold upG
  by_cases e : q = y * 16 + x
  · have e1 : q % 16 = x := by omega
    have e2 : q / 16 = y := by omega
    rw [if_pos e, e1, e2, decide_eq_true (by omega), Bool.true_and]
  · rw [if_neg e]
    congr 1
    rw [decide_eq_decide]
    omega
theorem upG_row (f : Nat → Nat → Bool) (W y q : Nat) (hf : ∀ x, W ≤ x → f x y = false) (hW : W ≤ 16) : upG f y W q = upG f (y + 1) 0 q := by
  unfold upG
  by_cases e : q / 16 = y
  · by_cases c : q % 16 < W
    · rw [decide_eq_true (by omega), decide_eq_true (by omega)]
    · rw [e, hf _ (by omega), Bool.and_false, Bool.and_false]
  · congr 1
    rw [decide_eq_decide]
    omega
theorem chg_col (a b p : Int) (d1 d2 : List Int) (x y : Nat) (h : a ≤ (x : Int)) : chg a b p d1 d2 x y = false := by
  unfold chg; rw [decide_eq_false (by omega), Bool.false_and]
theorem chg_row (a b p : Int) (d1 d2 : List Int) (x y : Nat) (h : b ≤ (y : Int)) : chg a b p d1 d2 x y = false := by
  unfold chg; rw [decide_eq_false (show ¬ (y : Int) < b by omega), Bool.false_and, Bool.and_false]
theorem spec_changed_ev (W H : Nat) (p : Int) (d1 d2 : List Int) (hv1 : validI W H p d1 = true) (hv2 : validI W H p d2 = true) : Ev (fun k => spec_changed.f k W H p d1 W H p d2) (runsL (gso (chg W H p d1 d2) 256)) := by
  have hh := (validI_iff _ _ _ _).1 hv1
  have hpr := shape_prod hh.1
  have hW : W ≤ 16 := by omega
  have hH : H ≤ 16 := by omega
  obtain ⟨f, hf⟩ : ∃ f, f = chg W H p d1 d2 := ⟨_, rfl⟩
  have hlast : ∀ q, q < 256 → upG f H 0 q = gso f 256 q := by
    intro q hq
    rw [gso_at _ _ hq]
    unfold upG
    by_cases c : q / 16 < H
    · rw [decide_eq_true (by omega), Bool.true_and]
    · rw [hf, chg_row _ _ _ _ _ _ _ (by omega), Bool.and_false]
  have key := ev_up2 H (fun k y (s : List Bool) => spec_changed.l0 k s (y : Int) W H p d1 W H p d2) (fun y s => s = tab (upG f y 0)) (fun _ _ => runsL (gso f 256))
    (by
      intro y s hy hs
      right
      refine ⟨tab (upG f (y + 1) 0), fun R hR => ?_, rfl, rfl⟩
      have inner := ev_up2 W (fun k x (s : List Bool) => spec_changed.l1 k s (y : Int) (x : Int) W H p d1 W H p d2) (fun x s => s = tab (upG f y x)) (fun _ _ => R)
        (by
          intro x s hx hs
          right
          refine ⟨tab (upG f y (x + 1)), fun R' hR' => ?_, rfl, rfl⟩
          have e1 := spec_pixelAt_eq hv1 (x := x) (y := y) (by omega) (by omega)
          have e2 := spec_pixelAt_eq hv2 (x := x) (y := y) (by omega) (by omega)
          have hl := pixT_len d1 (pixJ W p x y) p
          have e3 := spec_equalInts_ev (pixT d1 (pixJ W p x y) p) (pixT d2 (pixJ W p x y) p) (by omega)
          have e4 : wrap64 ((wrap64 ((y : Int) * 16)) + (x : Int)) = ((y * 16 + x : Nat) : Int) := by
            rw [w64 (x := (y : Int) * 16) (by omega) (by omega), w64 (by omega) (by omega)]; omega
          have e5 : (!(decide (pixT d1 (pixJ W p x y) p = pixT d2 (pixJ W p x y) p))) = f x y := by rw [hf, chg_in _ _ _ _ _ _ _ (by omega) (by omega)]
          have hset : s.set (y * 16 + x) (f x y) = tab (upG f y (x + 1)) := by
            rw [hs, tab_set]
            exact tab_congr (fun q _ => upG_set f y x q (by omega))
          have hlen : s.length = 256 := by rw [hs, tab_length]
          refine Ev.step (f := fun k => (spec_pixelAt.f W H p d1 (x : Int) (y : Int)).bind fun u => (spec_pixelAt.f W H p d2 (x : Int) (y : Int)).bind fun v => (spec_equalInts.f k u v).bind fun z => if 0 ≤ (wrap64 ((wrap64 ((y : Int) * 16)) + (x : Int))) then (if (wrap64 ((wrap64 ((y : Int) * 16)) + (x : Int))) < (s.length : Int) then spec_changed.l1 k (s.set ((wrap64 ((wrap64 ((y : Int) * 16)) + (x : Int))) : Int).toNat (!z)) (y : Int) (wrap64 ((x : Int) + 1)) W H p d1 W H p d2 else none) else none) (fun k => ?_) ?_
          · simp only [spec_changed.l1]
            rw [if_pos (by omega)]
          · refine ev_now e1 (ev_now e2 (ev_bind e3 ?_))
            rw [e4, e5]
            refine ev_pos (by omega) (ev_pos (by omega) ?_)
            rw [Int.toNat_natCast, hset, w64n x (by omega)]
            exact hR')
        (by
          intro s hs
          have hrow : s = tab (upG f (y + 1) 0) := by
            rw [hs]
            exact tab_congr (fun q _ => upG_row f W y q (fun x hx => by rw [hf]; exact chg_col _ _ _ _ _ _ _ (by omega)) hW)
          refine Ev.step (fun k => ?_) (show Ev (fun k => spec_changed.l0 k s ((y + 1 : Nat) : Int) W H p d1 W H p d2) R from by rw [hrow]; exact hR)
          simp only [spec_changed.l1]
          rw [if_neg (by omega), w64n y (by omega)])
        W 0 s (by omega) hs
      have inner' : Ev (fun k => spec_changed.l1 k s (y : Int) 0 W H p d1 W H p d2) R := inner
      refine Ev.step (fun k => ?_) inner'
      simp only [spec_changed.l0]
      rw [if_pos (by omega)])
    (by
      intro s hs
      have hend : s = tab (gso f 256) := by rw [hs]; exact tab_congr hlast
      refine Ev.step (f := fun k => (spec_runsOf.f k s).bind fun t => some t) (fun k => ?_) (ev_bind (by rw [hend]; exact spec_runsOf_ev _) (Ev.now _))
      simp only [spec_changed.l0]
      rw [if_neg (by omega)])
    H 0 (List.replicate 256 false) (by omega) (by
      rw [tab_false]
      refine tab_congr (fun q _ => ?_)
      unfold upG
      rw [decide_eq_false (by omega), Bool.false_and])
  unfold spec_changed.f
  rw [← hf]
  have key' : Ev (fun k => spec_changed.l0 k (List.replicate 256 false) 0 W H p d1 W H p d2) (runsL (gso f 256)) := key
  exact ev_pos (by omega) key'
end Go.Proofs.Ytbgohbinonkhfaa.Pure

/- The reference's parts of a region. -/
namespace Go.Proofs.Ytbgohbinonkhfaa.Pure
open Go.RowKit Go.Proofs.Ytbgohbinonkhfaa.Q Go.Proofs.YtbgohbinonkhfaaW.PrintWords Go.Proofs.YtbgohbinonkhfaaW.PrintLast Go.Proofs.YtbgohbinonkhfaaW.PrintMore
set_option linter.unusedVariables false
set_option linter.unusedSimpArgs false

theorem tabD (g : Nat → Bool) (p : Nat) (hp : p < 256) : (tab g).getD p false = g p := by
  simp [tab, List.getD_eq_getElem?_getD, hp]
theorem spread_eq (g : Nat → Bool) (a : Nat) (ha : a < 256) : spec_spreadFrom.f (tab g) (a : Int) = some (tab (comp g a)) := by
  unfold spec_spreadFrom.f
  rw [if_pos ⟨tab_length g, by omega, by omega⟩, Int.toNat_natCast]
  congr 1
  exact tab_congr (fun q _ => comp_congr (fun p hp => tabD g p hp) a q)
theorem spec_parts_from : ∀ (n a : Nat) (g : Nat → Bool) (acc : List (List Run)), a + n = 256 → acc.length ≤ a → Ev (fun k => spec_parts.l0 k acc (tab g) (a : Int)) (acc ++ partsS n a g) := by
  intro n
  induction n with
  | zero =>
    intro a g acc ha _
    refine Ev.step (f := fun _ => some acc) (fun k => ?_) (ev_const (by unfold partsS; rw [List.append_nil]))
    simp only [spec_parts.l0]
    rw [if_neg (by rw [tab_length]; omega)]
  | succ n ih =>
    intro a g acc ha hl
    have ha256 : a < 256 := by omega
    cases hg : g a with
    | false =>
      have e : partsS (n + 1) a g = partsS n (a + 1) g := by
        conv => lhs; unfold partsS
        rw [if_neg (by rw [hg]; simp)]
      rw [e]
      refine Ev.step (fun k => ?_) (ih (a + 1) g acc (by omega) (by omega))
      simp only [spec_parts.l0]
      rw [if_pos (by rw [tab_length]; omega), if_pos (by omega), tab_get g a ha256, if_neg (by rw [hg]; simp), w64n a (by omega)]
    | true =>
      have e : partsS (n + 1) a g = runsL (comp g a) :: partsS n (a + 1) (fun q => g q && !(comp g a q)) := by
        conv => lhs; unfold partsS
        rw [if_pos hg]
      rw [e]
      have hnext : Ev (fun k => spec_parts.l0 k (acc ++ [runsL (comp g a)]) (tab (fun q => g q && !(comp g a q))) ((a + 1 : Nat) : Int)) (acc ++ runsL (comp g a) :: partsS n (a + 1) (fun q => g q && !(comp g a q))) := by
        have h := ih (a + 1) (fun q => g q && !(comp g a q)) (acc ++ [runsL (comp g a)]) (by omega) (by rw [List.length_append, List.length_singleton]; omega)
        rw [List.append_assoc] at h
        exact h
      have hfill := fill_ev (fun q => g q && !(comp g a q)) g (fun k s p => spec_parts.l1 k (acc ++ [runsL (comp g a)]) s (a : Int) (tab (comp g a)) (p : Int)) _
        (by
          intro k s p hp hs
          have hr : rdOf false s (p : Int) = g p := by rw [hs, tab_get _ _ hp, if_neg (by omega)]
          have hsl : (p : Int) < (s.length : Int) := by rw [hs, tab_length]; omega
          have hpl : (p : Int) < ((tab (comp g a)).length : Int) := by rw [tab_length]; omega
          simp only [spec_parts.l1]
          rw [if_pos hsl, if_pos (by omega), hr, w64n p (by omega), Int.toNat_natCast, tab_get _ _ hp]
          cases hgp : g p with
          | true => rw [if_pos rfl, if_pos hpl, Bool.true_and]
          | false => rw [if_neg (by simp), Bool.false_and])
        (by
          refine Ev.step (fun k => ?_) hnext
          simp only [spec_parts.l1]
          rw [if_neg (by rw [tab_length]; omega), w64n a (by omega)])
      have hfill' : Ev (fun k => spec_parts.l1 k (acc ++ [runsL (comp g a)]) (tab g) (a : Int) (tab (comp g a)) 0) _ := hfill
      refine Ev.step (f := fun k => (spec_spreadFrom.f (tab g) (a : Int)).bind fun t => (spec_runsOf.f k t).bind fun u => if acc.length < 5864062014805 then spec_parts.l1 k (acc ++ [u]) (tab g) (a : Int) t 0 else none) (fun k => ?_) (ev_now (spread_eq g a ha256) (ev_bind (spec_runsOf_ev _) (ev_pos (by omega) hfill')))
      simp only [spec_parts.l0]
      rw [if_pos (by rw [tab_length]; omega), if_pos (by omega), tab_get g a ha256, if_pos hg]
theorem spec_parts_ev (l : List Run) (hl : l.length ≤ 1000000000) (hok : ∀ r ∈ l, 0 ≤ r.f0 ∧ r.f0 < 16 ∧ 0 ≤ r.f1 ∧ r.f2 ≤ 16) : Ev (fun k => spec_parts.f k l) (partsS 256 0 (gridF l)) := by
  unfold spec_parts.f
  exact ev_bind (spec_gridOf_ev l hl hok) (spec_parts_from 256 0 (gridF l) [] (by omega) (by simp))
end Go.Proofs.Ytbgohbinonkhfaa.Pure

/- Copies of a list of Box: they are the list. -/
namespace Go.Proofs.Ytbgohbinonkhfaa.Pure
open Go.RowKit Go.Proofs.Ytbgohbinonkhfaa.Q Go.Proofs.YtbgohbinonkhfaaW.PrintWords Go.Proofs.YtbgohbinonkhfaaW.PrintLast Go.Proofs.YtbgohbinonkhfaaW.PrintMore
set_option linter.unusedVariables false
set_option linter.unusedSimpArgs false

abbrev Box := S60
theorem rdBox (l : List Box) (i : Nat) (h : i < l.length) : rd_T60 l (i : Int) = l[i] := by simp [rd_T60, h]
theorem eqBoxS_refl (l : List Box) (hl : l.length ≤ 1000000000000) (k : Nat) (hk : l.length < k) : laws_eqBoxS.f k l l = some true := by
  have h := loop_up 0 l.length (fun k i (_ : Unit) => laws_eqBoxS.l0 k l l (i : Int)) (fun _ _ => True) (fun _ _ => true)
    (by
      intro i s k hi _ _
      refine .inr ⟨(), ?_, trivial, rfl⟩
      simp only [laws_eqBoxS.l0]
      rw [if_pos (by omega), if_pos (by omega), if_pos (by omega), w64n i (by omega)]
      simp [laws_eqBox.f])
    (by
      intro s k _ _
      simp only [laws_eqBoxS.l0]
      rw [if_neg (by omega)])
    l.length 0 () k (by omega) trivial (by omega)
  unfold laws_eqBoxS.f
  rw [if_pos rfl]
  simpa using h
end Go.Proofs.Ytbgohbinonkhfaa.Pure

/- ChangedBoxes, as the program and the reference have it. -/
namespace Go.Proofs.Ytbgohbinonkhfaa.Pure
open Go.RowKit Go.Proofs.Ytbgohbinonkhfaa.Q Go.Proofs.YtbgohbinonkhfaaW.PrintWords Go.Proofs.YtbgohbinonkhfaaW.PrintLast Go.Proofs.YtbgohbinonkhfaaW.PrintMore
set_option linter.unusedVariables false
set_option linter.unusedSimpArgs false

noncomputable def chBoxes (a b p : Int) (d1 : List Int) (a' b' p' : Int) (d2 : List Int) : List Box := if sameV a b p d1 a' b' p' d2 = true then (partsS 256 0 (gso (chg a b p d1 d2) 256)).map boxB else []
theorem chBoxes_len (a b p : Int) (d1 : List Int) (a' b' p' : Int) (d2 : List Int) : (chBoxes a b p d1 a' b' p' d2).length ≤ 256 := by
  unfold chBoxes
  split
  · rw [List.length_map]; exact partsS_len 256 0 _
  · simp
theorem impl_ChangedBoxes_eq (a b p : Int) (d1 : List Int) (a' b' p' : Int) (d2 : List Int) : impl_ChangedBoxes.f a b p d1 a' b' p' d2 = some (chBoxes a b p d1 a' b' p' d2) := rfl
theorem boundsLoop (L : List (List Run)) (h : ∀ r ∈ L, r ≠ [] ∧ r.length ≤ 272 ∧ ∀ x ∈ r, runOK x = true) (hL : L.length ≤ 256) : Ev (fun k => spec_ChangedBoxes.l0 k [] L 0) (L.map boxB) := by
  have key := ev_up2 L.length (fun k i (s : List Box) => spec_ChangedBoxes.l0 k s L (i : Int)) (fun i s => s = (L.take i).map boxB) (fun _ _ => L.map boxB)
    (by
      intro i s hi hs
      right
      refine ⟨(L.take (i + 1)).map boxB, fun R hR => ?_, rfl, rfl⟩
      have hx := h L[i] (List.getElem_mem hi)
      have hrd : rd_L13 L (i : Int) = L[i] := by simp [rd_L13, hi]
      have hb : Ev (fun k => spec_boundsOf.f k L[i]) (boundsR L[i]) := ev_of L[i].length (fun k hk => spec_boundsOf_eq L[i] hx.1 (by omega) hx.2.2 k hk)
      have hlen : s.length ≤ 256 := by rw [hs, List.length_map, List.length_take]; omega
      have htk : (L.take (i + 1)).map boxB = s ++ [boxB L[i]] := by rw [List.take_succ_eq_append_getElem hi, List.map_append, hs]; rfl
      refine Ev.step (f := fun k => (spec_boundsOf.f k L[i]).bind fun bt => if s.length < 4398046511104 then spec_ChangedBoxes.l0 k (s ++ [⟨bt.1, bt.2.1, bt.2.2.1, bt.2.2.2⟩]) L (wrap64 ((i : Int) + 1)) else none) (fun k => ?_) (ev_bind hb (ev_pos (by omega) ?_))
      · simp only [spec_ChangedBoxes.l0]
        rw [if_pos (by omega), if_pos (by omega), hrd]
      · rw [w64n i (by omega)]
        rw [htk] at hR
        exact hR)
    (by
      intro s hs
      refine Ev.step (f := fun _ => some s) (fun k => ?_) (ev_const (by rw [hs, List.take_length]))
      simp only [spec_ChangedBoxes.l0]
      rw [if_neg (by omega)])
    L.length 0 [] (by omega) (by simp)
  exact key
theorem spec_ChangedBoxes_ev (a b p : Int) (d1 : List Int) (a' b' p' : Int) (d2 : List Int) (hl : d1.length ≤ 1000000000000) (hl' : d2.length ≤ 1000000000000) : Ev (fun k => spec_ChangedBoxes.f k a b p d1 a' b' p' d2) (chBoxes a b p d1 a' b' p' d2) := by
  unfold spec_ChangedBoxes.f chBoxes
  refine ev_bind (spec_sameShape_ev a b p d1 a' b' p' d2 hl hl') ?_
  by_cases c : sameV a b p d1 a' b' p' d2 = true
  · rw [if_pos c]
    obtain ⟨h1, h2, rfl, rfl, rfl⟩ := (sameV_iff _ _ _ _ _ _ _ _).1 c
    have hh := (validI_iff _ _ _ _).1 h1
    obtain ⟨W, rfl⟩ := Int.eq_ofNat_of_zero_le (show 0 ≤ a by omega)
    obtain ⟨H, rfl⟩ := Int.eq_ofNat_of_zero_le (show 0 ≤ b by omega)
    have hlen := runsL_len (gso (chg W H p d1 d2) 256)
    have hp := spec_parts_ev (runsL (gso (chg W H p d1 d2) 256)) (by omega) (valid_ranges (runs_valid _))
    rw [partsS_congr 256 0 _ _ (by omega) (fun q hq => grid_runs (gso (chg W H p d1 d2) 256) q hq)] at hp
    refine ev_pos c (ev_bind (spec_changed_ev W H p d1 d2 h1 h2) (ev_bind hp (boundsLoop _ (fun r hr => ?_) (partsS_len 256 0 _))))
    obtain ⟨f, hf⟩ := partsS_each 256 0 _ r hr
    exact ⟨partsS_ne 256 0 _ (by omega) r hr, by rw [hf]; exact runsL_len f, by rw [hf]; exact valid_ok (runs_valid f)⟩
  · rw [if_neg c]
    exact ev_neg c (Ev.now _)
end Go.Proofs.Ytbgohbinonkhfaa.Pure

/- Copies of an image: they are the image; marks on an image. -/
namespace Go.Proofs.Ytbgohbinonkhfaa.Pure
open Go.RowKit Go.Proofs.Ytbgohbinonkhfaa.Q Go.Proofs.YtbgohbinonkhfaaW.PrintWords Go.Proofs.YtbgohbinonkhfaaW.PrintLast Go.Proofs.YtbgohbinonkhfaaW.PrintMore
set_option linter.unusedVariables false
set_option linter.unusedSimpArgs false

theorem toIntS_ev (l : List Int) (hl : l.length ≤ 2000000) : Ev (fun k => laws_toIntS.f k l) l := by
  have key := ev_up l.length (fun k i s => laws_toIntS.l0 k l s (i : Int)) (fun i s => s.length = l.length ∧ s.take i = l.take i) (fun i s => l)
    (by
      intro i s hi hs
      refine .inr ⟨s.set i l[i], fun k => ?_, ⟨by simpa using hs.1, ?_⟩, rfl⟩
      · simp only [laws_toIntS.l0]
        rw [if_pos (by omega), if_pos (by omega), rd_nat l i hi, if_pos (by omega), w64n i (by omega), Int.toNat_natCast]
      · rw [take_set s i _ (by omega), hs.2, List.take_succ_eq_append_getElem hi])
    (by
      intro s hs
      refine Ev.step (f := fun _ => some s) (fun k => ?_) (ev_const ?_)
      · simp only [laws_toIntS.l0]
        rw [if_neg (by omega)]
      · rw [← List.take_length (l := s), hs.1, hs.2, List.take_length])
    l.length 0 (List.replicate l.length 0) (by omega) ⟨by simp, by simp⟩
  unfold laws_toIntS.f
  refine Ev.congr (fun k => ?_) key
  rw [if_pos (by omega), if_pos (by omega)]
  simp
theorem eqIntS_ev (l : List Int) (hl : l.length ≤ 1000000000000) : Ev (fun k => laws_eqIntS.f k l l) true := by
  have key := ev_up l.length (fun k i (_ : Unit) => laws_eqIntS.l0 k l l (i : Int)) (fun _ _ => True) (fun _ _ => true)
    (by
      intro i s hi _
      refine .inr ⟨(), fun k => ?_, trivial, rfl⟩
      simp only [laws_eqIntS.l0]
      rw [if_pos (by omega), if_pos (by omega), if_pos (by omega), if_pos trivial, w64n i (by omega)])
    (by
      intro s _
      refine Ev.step (f := fun _ => some true) (fun k => ?_) (Ev.now true)
      simp only [laws_eqIntS.l0]
      rw [if_neg (by omega)])
    l.length 0 () (by omega) trivial
  unfold laws_eqIntS.f
  exact ev_pos rfl (by simpa using key)
theorem szIntS_eq (l : List Int) (n : Int) (h0 : 0 ≤ n) (h1 : n ≤ 1048576) (hl : l.length ≤ 9223372036854775807) :
    (l.length ≤ 1048576 ∧ n - (l.length : Int) ≥ 0 ∧ laws_szIntS.f l n = some (n - (l.length : Int))) ∨ laws_szIntS.f l n = some (-1) := by
  unfold laws_szIntS.f
  by_cases c : (l.length : Int) ≤ n
  · left
    rw [w64 (by omega) (by omega), if_neg (by omega)]
    exact ⟨by omega, by omega, rfl⟩
  · right
    rw [w64 (by omega) (by omega), if_pos (by omega)]
theorem markIntS_ev (l : List Int) (n : Int) (hl : l.length ≤ 1000000000) (h0 : 0 ≤ n) (h1 : n ≤ 1000000000000) : ∃ l' : List Int, l'.length = l.length ∧ Ev (fun k => laws_markIntS.f k l n) (n + (l.length : Int), l') := by
  have key := ev_up l.length (fun k i (s : List Int) => laws_markIntS.l0 k s (n + (i : Int)) (i : Int)) (fun i s => s.length = l.length ∧ s.take i = (List.range i).map (fun j => n + ((j : Nat) : Int))) (fun _ _ => (n + (l.length : Int), (List.range l.length).map (fun j => n + ((j : Nat) : Int))))
    (by
      intro i s hi hs
      refine .inr ⟨s.set i (n + (i : Int)), fun k => ?_, ⟨by simpa using hs.1, by rw [take_set s i _ (by omega), hs.2, List.range_succ, List.map_append]; rfl⟩, rfl⟩
      simp only [laws_markIntS.l0]
      rw [if_pos (by omega), if_pos (by omega), w64n i (by omega), w64 (x := n + (i : Int) + 1) (by omega) (by omega), Int.toNat_natCast, show n + (i : Int) + 1 = n + ((i + 1 : Nat) : Int) by omega])
    (by
      intro s hs
      refine Ev.step (f := fun _ => some (n + (l.length : Int), s)) (fun k => ?_) (ev_const ?_)
      · simp only [laws_markIntS.l0]
        rw [if_neg (by omega)]
      · rw [← hs.2, ← hs.1, List.take_length])
    l.length 0 l (by omega) ⟨rfl, by simp⟩
  refine ⟨(List.range l.length).map (fun j => n + ((j : Nat) : Int)), by simp, ?_⟩
  unfold laws_markIntS.f
  simpa using key
theorem szImage_eq (w h p : Int) (d : List Int) (n : Int) (h0 : 0 ≤ n) (h1 : n ≤ 1048576) (hl : d.length ≤ 9223372036854775807) :
    (d.length ≤ 1048576 ∧ n - (d.length : Int) ≥ 0 ∧ laws_szImage.f w h p d n = some (n - (d.length : Int))) ∨ laws_szImage.f w h p d n = some (-1) := by
  unfold laws_szImage.f
  rcases szIntS_eq d n h0 h1 hl with ⟨a, b, c⟩ | c
  · left
    rw [c]
    simp only [Option.bind_some]
    rw [if_neg (by omega)]
    exact ⟨a, b, rfl⟩
  · right
    rw [c]
    simp only [Option.bind_some]
    rw [if_pos (by omega)]
theorem toImage_ev (w h p : Int) (d : List Int) (hl : d.length ≤ 2000000) : Ev (fun k => laws_toImage.f k w h p d) (w, h, p, d) := by
  unfold laws_toImage.f
  exact ev_bind (toIntS_ev d hl) (Ev.now _)
theorem eqImage_ev (w h p : Int) (d : List Int) (hl : d.length ≤ 1000000000000) : Ev (fun k => laws_eqImage.f k w h p d w h p d) true := by
  unfold laws_eqImage.f
  exact ev_pos rfl (ev_pos rfl (ev_pos rfl (ev_bind (eqIntS_ev d hl) (ev_pos rfl (Ev.now _)))))
theorem markImage_ev (w h p : Int) (d : List Int) (n : Int) (hl : d.length ≤ 1000000000) (h0 : 0 ≤ n) (h1 : n ≤ 1000000000000) : ∃ d' : List Int, d'.length = d.length ∧ Ev (fun k => laws_markImage.f k w h p d n) (n + (d.length : Int), d') := by
  obtain ⟨d', e, hd⟩ := markIntS_ev d n hl h0 h1
  refine ⟨d', e, ?_⟩
  unfold laws_markImage.f
  exact ev_bind hd (Ev.now _)
end Go.Proofs.Ytbgohbinonkhfaa.Pure

/- Marks on boxes: what is written into a list's boxes, and read again. -/
namespace Go.Proofs.Ytbgohbinonkhfaa.Pure
open Go.RowKit Go.Proofs.Ytbgohbinonkhfaa.Q Go.Proofs.YtbgohbinonkhfaaW.PrintWords Go.Proofs.YtbgohbinonkhfaaW.PrintLast Go.Proofs.YtbgohbinonkhfaaW.PrintMore
set_option linter.unusedVariables false
set_option linter.unusedSimpArgs false

def markOneB (n : Int) (i : Nat) : Box := ⟨n + 4 * (i : Int), n + 4 * (i : Int) + 1, n + 4 * (i : Int) + 1 + 1, n + 4 * (i : Int) + 1 + 1 + 1⟩
def markedB (m : Nat) (n : Int) : List Box := (List.range m).map (markOneB n)
theorem markedB_length (m : Nat) (n : Int) : (markedB m n).length = m := by simp [markedB]
theorem markedB_succ (m : Nat) (n : Int) : markedB (m + 1) n = markedB m n ++ [markOneB n m] := by simp [markedB, List.range_succ]
theorem markedB_get (m : Nat) (n : Int) (i : Nat) (h : i < (markedB m n).length) : (markedB m n)[i] = markOneB n i := by simp [markedB]
theorem markBoxS_ev (l : List Box) (n : Int) (hl : l.length ≤ 1000000000) (h0 : 0 ≤ n) (h1 : n ≤ 1000000000000) : Ev (fun k => laws_markBoxS.f k l n) (n + 4 * (l.length : Int), markedB l.length n) := by
  have key := ev_up l.length (fun k i (s : List Box) => laws_markBoxS.l0 k s (n + 4 * (i : Int)) (i : Int)) (fun i s => s.length = l.length ∧ s.take i = markedB i n) (fun _ _ => (n + 4 * (l.length : Int), markedB l.length n))
    (by
      intro i s hi hs
      right
      have hi' : i < s.length := by omega
      refine ⟨s.set i (markOneB n i), fun k => ?_, ⟨by rw [List.length_set]; exact hs.1, by rw [take_set s i _ hi', hs.2, markedB_succ]⟩, rfl⟩
      simp only [laws_markBoxS.l0]
      have r1 : ∀ c : Box, rd_T60 (s.set i c) (i : Int) = c := by
        intro c
        rw [rdBox (s.set i c) i (by rw [List.length_set]; omega), List.getElem_set_self]
      rw [if_pos (by omega), if_pos (by omega)]
      simp only [Option.bind_some, Int.toNat_natCast, List.set_set, r1]
      rw [w64n i (by omega), w64 (x := n + 4 * (i : Int) + 1) (by omega) (by omega), w64 (x := n + 4 * (i : Int) + 1 + 1) (by omega) (by omega), w64 (x := n + 4 * (i : Int) + 1 + 1 + 1) (by omega) (by omega), w64 (x := n + 4 * (i : Int) + 1 + 1 + 1 + 1) (by omega) (by omega)]
      have e : n + 4 * (i : Int) + 1 + 1 + 1 + 1 = n + 4 * ((i + 1 : Nat) : Int) := by omega
      rw [e]
      rfl)
    (by
      intro s hs
      refine Ev.step (f := fun _ => some (n + 4 * (l.length : Int), s)) (fun k => ?_) (ev_const ?_)
      · simp only [laws_markBoxS.l0]
        rw [if_neg (by omega)]
      · rw [← hs.2, ← hs.1, List.take_length])
    l.length 0 l (by omega) ⟨rfl, by simp [markedB]⟩
  unfold laws_markBoxS.f
  simpa using key
theorem heldBoxS_ev (m : Nat) (n : Int) (hl : m ≤ 1000000000) (h0 : 0 ≤ n) (h1 : n ≤ 1000000000000) : Ev (fun k => laws_heldBoxS.f k (markedB m n) n) (n + 4 * (m : Int)) := by
  have key := ev_up m (fun k i (_ : Unit) => laws_heldBoxS.l0 k (markedB m n) (n + 4 * (i : Int)) (i : Int)) (fun _ _ => True) (fun _ _ => n + 4 * (m : Int))
    (by
      intro i s hi _
      right
      refine ⟨(), fun k => ?_, trivial, rfl⟩
      simp only [laws_heldBoxS.l0]
      rw [if_pos (by rw [markedB_length]; omega), if_pos (by omega), rdBox _ i (by rw [markedB_length]; omega), markedB_get, w64n i (by omega), w64 (x := n + 4 * (i : Int) + 1) (by omega) (by omega), w64 (x := n + 4 * (i : Int) + 1 + 1) (by omega) (by omega), w64 (x := n + 4 * (i : Int) + 1 + 1 + 1) (by omega) (by omega), w64 (x := n + 4 * (i : Int) + 1 + 1 + 1 + 1) (by omega) (by omega)]
      have e : n + 4 * (i : Int) + 1 + 1 + 1 + 1 = n + 4 * ((i + 1 : Nat) : Int) := by omega
      rw [if_pos (by simp only [markOneB]), if_pos (by simp only [markOneB]), if_pos (by simp only [markOneB]), if_pos (by simp only [markOneB]), e])
    (by
      intro s _
      refine Ev.step (f := fun _ => some (n + 4 * (m : Int))) (fun k => ?_) (ev_const rfl)
      simp only [laws_heldBoxS.l0]
      rw [if_neg (by rw [markedB_length]; omega)])
    m 0 () (by omega) trivial
  unfold laws_heldBoxS.f
  simpa using key
end Go.Proofs.Ytbgohbinonkhfaa.Pure

/- The program's ChangedBoxes and the reference's return the same, and what is returned is held by nobody else: over lists of numbers alone. -/
namespace Go.Proofs.Ytbgohbinonkhfaa.Pure
open Go.RowKit Go.Proofs.Ytbgohbinonkhfaa.Q Go.Proofs.YtbgohbinonkhfaaW.PrintWords Go.Proofs.YtbgohbinonkhfaaW.PrintLast Go.Proofs.YtbgohbinonkhfaaW.PrintMore
set_option linter.unusedVariables false
set_option linter.unusedSimpArgs false

theorem FnExactChangedBoxes : laws_FnExactChangedBoxes.Pure := by
  intro w h p d w' h' p' d' _ _ _ _ hl _ _ _ _ hl'
  apply Ev.rounds
  unfold laws_FnExactChangedBoxes.f
  rcases szImage_eq w h p d 1048576 (by omega) (by omega) (by first | exact hl | omega) with ⟨hn, h0, hs⟩ | hs
  · rcases szImage_eq w' h' p' d' (1048576 - (d.length : Int)) (by omega) (by omega) (by first | exact hl' | omega) with ⟨hn', h0', hs'⟩ | hs'
    · have hc := toImage_ev w h p d (by omega)
      have hc' := toImage_ev w' h' p' d' (by omega)
      have hS := spec_ChangedBoxes_ev w h p d w' h' p' d' (by omega) (by omega)
      have hI := impl_ChangedBoxes_eq w h p d w' h' p' d'
      have hlen := chBoxes_len w h p d w' h' p' d'
      generalize chBoxes w h p d w' h' p' d' = V at hS hI hlen
      have heq := ev_of V.length (fun k hk => eqBoxS_refl V (by omega) k hk)
      have he := eqImage_ev w h p d (by omega)
      have he' := eqImage_ev w' h' p' d' (by omega)
      obtain ⟨e1, e2, hmx⟩ := markImage_ev w h p d 1 (by omega) (by omega) (by omega)
      obtain ⟨e3, e4, hmy⟩ := markImage_ev w' h' p' d' (1 + (d.length : Int)) (by omega) (by omega) (by omega)
      have hm := markBoxS_ev V 1 (by omega) (by omega) (by omega)
      have hh := heldBoxS_ev V.length 1 (by omega) (by omega) (by omega)
      refine ev_now hs (ev_neg (by omega) (ev_now hs' (ev_neg (by omega) (ev_bind hc (ev_bind hc' (ev_bind hS (ev_bind hc (ev_bind hc' (ev_now hI (ev_bind heq (ev_pos rfl (ev_bind hc (ev_bind he (ev_pos rfl (ev_bind hc' (ev_bind he' (ev_pos rfl (ev_bind hmx (ev_bind hmy (ev_neg (by show ¬ (1 + (d.length : Int) + (d'.length : Int) < 0); omega) (ev_bind heq ?_)))))))))))))))))))))
      refine Ev.step (fun k => by simp only [laws_FnExactChangedBoxes.j0]; rfl) ?_
      exact ev_neg (by simp) (ev_bind hm (ev_bind hh (ev_neg (by omega) (ev_pos rfl (ev_bind hc (ev_bind hc' (ev_now hI (ev_bind heq (ev_pos rfl (ev_bind hh (ev_neg (by omega) (ev_pos rfl (Ev.now true)))))))))))))
    · exact ev_now hs (ev_neg (by omega) (ev_now hs' (ev_pos (by omega) (Ev.now true))))
  · exact ev_now hs (ev_pos (by omega) (Ev.now true))
end Go.Proofs.Ytbgohbinonkhfaa.Pure

/- The head of the translation reads as a plain cut. -/
namespace Go.Proofs.Ytbgohbinonkhfaa.Head
set_option maxRecDepth 100000
theorem wordsSigns_word (w r : List Char) (h : w.all (fun c => !(c == Char.ofNat 32)) = true) : wordsSigns (w ++ Char.ofNat 32 :: r) = w :: wordsSigns r := by
  induction w with
  | nil => rfl
  | cons c w ih =>
    simp only [List.all_cons, Bool.and_eq_true, Bool.not_eq_true', beq_eq_false_iff_ne, ne_eq] at h
    have h1 := ih (by simpa using h.2)
    rw [List.cons_append, wordsSigns.eq_3 c _ h.1, h1]
def w1 : List Char := [104, 97, 114, 110, 101, 115, 115].map Char.ofNat
def w2 : List Char := [51, 55, 55, 51, 100, 53, 51, 56, 50, 98, 53, 98, 101, 101, 49, 50, 100, 98, 57, 53, 100, 98, 101, 50, 51, 51, 101, 57, 100, 57, 52, 97, 99, 54, 53, 55, 97, 101, 56, 99, 55, 52, 99, 52, 48, 99, 57, 54, 54, 99, 100, 99, 48, 50, 56, 53, 54, 48, 100, 101, 100, 55, 52, 52].map Char.ofNat
def w3 : List Char := [99, 117, 116].map Char.ofNat
def w4 : List Char := [97, 116, 32, 108, 111, 111, 112, 46, 101, 120, 97, 109, 112, 108, 101, 47, 112, 105, 120, 101, 108, 119, 111, 114, 107, 115, 47, 108, 97, 119, 115, 46, 70, 110, 69, 120, 97, 99, 116, 67, 104, 97, 110, 103, 101, 100, 82, 101, 103, 105, 111, 110, 32, 108, 111, 111, 112, 46, 101, 120, 97, 109, 112, 108, 101, 47, 112, 105, 120, 101, 108, 119, 111, 114, 107, 115, 47, 108, 97, 119, 115, 46, 70, 110, 67, 104, 97, 110, 103, 101, 100, 82, 101, 103, 105, 111, 110, 32, 108, 111, 111, 112, 46, 101, 120, 97, 109, 112, 108, 101, 47, 112, 105, 120, 101, 108, 119, 111, 114, 107, 115, 47, 108, 97, 119, 115, 46, 70, 110, 69, 120, 97, 99, 116, 70, 108, 111, 111, 100, 82, 101, 103, 105, 111, 110, 32, 108, 111, 111, 112, 46, 101, 120, 97, 109, 112, 108, 101, 47, 112, 105, 120, 101, 108, 119, 111, 114, 107, 115, 47, 108, 97, 119, 115, 46, 70, 110, 70, 108, 111, 111, 100, 82, 101, 103, 105, 111, 110, 83, 97, 109, 101, 32, 108, 111, 111, 112, 46, 101, 120, 97, 109, 112, 108, 101, 47, 112, 105, 120, 101, 108, 119, 111, 114, 107, 115, 47, 108, 97, 119, 115, 46, 70, 110, 70, 108, 111, 111, 100, 82, 101, 103, 105, 111, 110, 32, 108, 111, 111, 112, 46, 101, 120, 97, 109, 112, 108, 101, 47, 112, 105, 120, 101, 108, 119, 111, 114, 107, 115, 47, 108, 97, 119, 115, 46, 70, 110, 69, 120, 97, 99, 116, 67, 104, 97, 110, 103, 101, 100, 66, 111, 120, 101, 115, 32, 108, 111, 111, 112, 46, 101, 120, 97, 109, 112, 108, 101, 47, 112, 105, 120, 101, 108, 119, 111, 114, 107, 115, 47, 108, 97, 119, 115, 46, 70, 110, 67, 104, 97, 110, 103, 101, 100, 66, 111, 120, 101, 115, 32, 108, 111, 111, 112, 46, 101, 120, 97, 109, 112, 108, 101, 47, 112, 105, 120, 101, 108, 119, 111, 114, 107, 115, 47, 108, 97, 119, 115, 46, 70, 110, 80, 97, 116, 99, 104, 73, 109, 97, 103, 101].map Char.ofNat
theorem signs0 : Try.prog.initOrder = String.ofList (w1 ++ Char.ofNat 32 :: (w2 ++ Char.ofNat 32 :: (w3 ++ Char.ofNat 32 :: w4))) := by kernel_rfl
theorem behind : behindMainWord (wordsSigns Try.prog.initOrder.toList) = w3 :: wordsSigns w4 := by
  rw [signs0, String.toList_ofList, wordsSigns_word w1 _ (by kernel_rfl), wordsSigns_word w2 _ (by kernel_rfl), wordsSigns_word w3 _ (by kernel_rfl)]
  unfold behindMainWord
  dsimp only
  rw [if_pos (by kernel_rfl)]
theorem strip_cut (R : List (List Char)) : stripLifts liftWords (w3 :: R) = ([], w3 :: R) := by kernel_rfl
theorem mayEnter_of (P : Program) (R : List (List Char)) (h : behindMainWord (wordsSigns P.initOrder.toList) = w3 :: R) (h1 : P.laysLater = false) (h2 : P.bearsReflect = false) (h3 : P.doorFits [] = true) : P.mayEnter = true := by
  unfold Program.mayEnter
  rw [h]
  dsimp only
  rw [strip_cut, h1, h2, h3]
  kernel_rfl
theorem liftsFinal_of (P : Program) (R : List (List Char)) (h : behindMainWord (wordsSigns P.initOrder.toList) = w3 :: R) : P.liftsFinal = false := by
  unfold Program.liftsFinal Program.headLifts
  rw [h]
  dsimp only
  rw [strip_cut]
  kernel_rfl
theorem make_of (P : Program) (R : List (List Char)) (h : behindMainWord (wordsSigns P.initOrder.toList) = w3 :: R) : P.make = some .cut := by
  unfold Program.make
  rw [h]
  kernel_rfl
theorem mayEnter : Try.prog.mayEnter = true := mayEnter_of _ _ behind (by kernel_rfl) (by kernel_rfl) (by kernel_rfl)
theorem liftsFinal : Try.prog.liftsFinal = false := liftsFinal_of _ _ behind
theorem make : Try.prog.make = some .cut := make_of _ _ behind
end Go.Proofs.Ytbgohbinonkhfaa.Head

-- the row of the law FnExactChangedBoxes
namespace Go.Proofs.Ytbgohbinonkhfaa.fnExactChangedBoxes
open Go.ChangeShapes Go.WideShapes Go.ChangeAt Go.RowKit Go.Proofs.Ytbgohbinonkhfaa.Q Go.Proofs.YtbgohbinonkhfaaW.PrintWords
open Go.ChangeMaps (open_string shut_string)
set_option linter.unusedVariables false
theorem own : ownKnob Try.prog.godebug = none := by kernel_rfl
theorem laidOut : laidOutB Try.prog = true := by kernel_rfl
set_option maxHeartbeats 4000000 in
set_option maxRecDepth 100000 in
theorem lifted (os : Os) (started : os.Started) (H : Type) (enc : TypeId × Value → H) :
    ReturnsInHanded {} Try.checked os 8 .any (Rows.fnExactChangedBoxesSpec.pre6 enc Try.prog Try.f8 Rows.fnExactChangedBoxesRow.domain false) (Rows.fnExactChangedBoxesSpec.post enc Try.prog Try.f8 false true false false) := by
  refine returnsInHanded_of_change_sized (C := Try.checked) own started (by kernel_rfl) Try.func8
    (ChangeSpec.witness6 (enc := enc) (C := Try.checked) false ⟨#[], #[.agg #[.int .i64 0, .int .i64 0, .int .i64 0, .slice none 0 0], .agg #[.int .i64 0, .int .i64 0, .int .i64 0, .slice none 0 0]], []⟩ 8 (by kernel_rfl) (by kernel_rfl) (by kernel_rfl) (by kernel_rfl)) ?_
  intro W base args ds gs before hval0 hW hcnd hsz0 _
  have hval : ∀ (j : Nat) t v, Try.f8.params[j]? = some t → args[j]? = some v → Value.okWide Try.prog W .any base t v := hval0
  have hW' := hW
  obtain ⟨p, q, hA0, hV, rfl, hfz, hnd⟩ := hW
  have hA : DataW.TrodAll enc Try.prog W 0 (fun _ => true) true Try.f8.params.toList args.toList ds p := hA0
  rw [Try.params8] at hA hval
  obtain ⟨v0, vs0, d0, ds0, p0, q0, hargs, rfl, rfl, h0, r0⟩ := trodAll_cons hA
  obtain ⟨v1, vs1, d1, ds1, p1, q1, rfl, rfl, rfl, h1, r1⟩ := trodAll_cons r0
  obtain ⟨rfl, rfl, rfl⟩ := trodAll_nil r1
  obtain rfl : args = #[v0, v1] := by cases args; simp_all
  obtain ⟨rfl, rfl⟩ := trodVars_none hV
  have k0 := h0
  have lt0 : ∀ x ∈ p0, x.block < W.heap.size := by obtain ⟨m, hm⟩ := k0; exact DataW.trod_lt m _ _ _ hm
  obtain ⟨fuel0, hf0⟩ := h0
  obtain ⟨cs0, rfl, hsz0⟩ := okWide_struct Try.underlying24 (hval 0 24 v0 rfl rfl)
  obtain ⟨y0, hK0, hq0⟩ := o24 _ _ _ _ _ _ hf0
  obtain ⟨A0_3, c0_3, hcs0, hc0_3, hr0_3⟩ := k24_open hK0
  obtain rfl : cs0 = #[.int .i64 y0.f0, .int .i64 y0.f1, .int .i64 y0.f2, .slice A0_3 y0.f3.length c0_3] := by cases cs0; simpa [Value.cells] using hcs0
  have k1 := h1
  have lt1 : ∀ x ∈ p1, x.block < W.heap.size := by obtain ⟨m, hm⟩ := k1; exact DataW.trod_lt m _ _ _ hm
  obtain ⟨fuel1, hf1⟩ := h1
  obtain ⟨cs1, rfl, hsz1⟩ := okWide_struct Try.underlying24 (hval 1 24 v1 rfl rfl)
  obtain ⟨y1, hK1, hq1⟩ := o24 _ _ _ _ _ _ hf1
  obtain ⟨A1_3, c1_3, hcs1, hc1_3, hr1_3⟩ := k24_open hK1
  obtain rfl : cs1 = #[.int .i64 y1.f0, .int .i64 y1.f1, .int .i64 y1.f2, .slice A1_3 y1.f3.length c1_3] := by cases cs1; simpa [Value.cells] using hcs1
  clear hA0 hval0 hsz0
  obtain ⟨k, hh⟩ := Pure.FnExactChangedBoxes y0.f0 y0.f1 y0.f2 y0.f3 y1.f0 y1.f1 y1.f2 y1.f3 hq0.1 hq0.2.1 hq0.2.2.1 hq0.2.2.2 hr0_3.2.1 hq1.1 hq1.2.1 hq1.2.2.1 hq1.2.2.2 hr1_3.2.1
  refine (Q.laws_FnExactChangedBoxes.calls k y0.f0 y0.f1 y0.f2 _ _ y0.f3 y1.f0 y1.f1 y1.f2 _ _ y1.f3 true W hr0_3 hc0_3 hr1_3 hc1_3 hh rfl).mono fun e W' hpost => ?_
  obtain ⟨he, bel0⟩ := hpost
  have bel : Below W.heap.size W W' := bel0
  subst he
  exact ⟨_, rfl, _, _, _, [], _, [], hW', trodAll_mk1 (shut_bool Try.underlying4 _), (trodAll_cons_mk (Below.trod laidOut (by kernel_rfl) (of_decide_eq_true (by kernel_rfl)) k0 bel lt0) (trodAll_cons_mk (Below.trod laidOut (by kernel_rfl) (of_decide_eq_true (by kernel_rfl)) k1 bel lt1) trodAll_mk0)), rfl, bel.frame _, fun h => by cases h⟩
set_option maxHeartbeats 4000000 in
theorem closed : joinedFacts Try.prog 8 Try.f8 Rows.fnExactChangedBoxesSpec Rows.fnExactChangedBoxesRow = true := by
  unfold joinedFacts
  rw [Head.mayEnter, Head.liftsFinal, Head.make]
  simp only [Bool.and_eq_true]
  repeat' apply And.intro
  all_goals first | exact True.intro | (as_aux_lemma => kernel_rfl)
set_option maxHeartbeats 4000000 in
theorem over : Rows.fnExactChangedBoxesRow.holds Try.pinned (OpenSpec.ofChange Rows.fnExactChangedBoxesSpec) :=
  OpenClaim.holds_of_wide 8 Try.f8 rfl rfl rfl rfl rfl rfl rfl ⟨rfl, rfl, rfl, rfl, rfl⟩ rfl rfl rfl rfl rfl (by kernel_rfl) Try.func8 closed
    (of_decide_eq_true (by kernel_rfl)) (by unfold Func.isWrapper; first | (rw [if_pos (by decide +kernel)]; kernel_rfl) | (rw [if_neg (by decide +kernel)]; exact ⟨rfl, rfl⟩))
    (fun os started H enc _ => lifted os started H enc)
theorem proved : Rows.FnExactChangedBoxesSaid := over
#print axioms proved
end Go.Proofs.Ytbgohbinonkhfaa.fnExactChangedBoxes
namespace Go.Proofs.Ytbgohbinonkhfaa
/-- The row, under a short name, for the claim. -/
theorem fnExactChangedBoxes_holds : Rows.FnExactChangedBoxesSaid := fnExactChangedBoxes.proved
end Go.Proofs.Ytbgohbinonkhfaa
