/- A part of the proof that the statement FnExactPartsOfSaid holds, under no condition of its own: The program's PartsOf and the reference's return the same, and what is returned is held by nobody else: over lists of numbers alone. -/
import Derived.Test.YtfgeickfheogoaaCFnExactPartsOf1
import Derived.Shelf.Abstract
import Derived.Deep.WholeRow
import Derived.Deep.RegionWith
namespace Go.Proofs.Ytfgeickfheogoaa.Q
open Go.RowKit Go.Proofs.YtfgeickfheogoaaW.PrintWords Go.Proofs.YtfgeickfheogoaaW.PrintLast Go.Proofs.YtfgeickfheogoaaW.PrintMore
attribute [local go_sem] max2_int min2_int max_two min_two max_three min_three max_four min_four
set_option linter.unusedVariables false
set_option linter.unusedSimpArgs false
/-! ### spec_runsOf: function 73 -/
mutual
def spec_runsOf.l0 : Nat → List Bool → List (S57) → Int → Option ((List (S57)))
  | 0, _, _, _ => none
  | k + 1, x0, x3, x4 => if x4 < 16 then (spec_runsOf.l1 k x0 x3 x4 (-1) 0) else (some x3)
def spec_runsOf.l1 : Nat → List Bool → List (S57) → Int → Int → Int → Option ((List (S57)))
  | 0, _, _, _, _, _ => none
  | k + 1, x0, x3, x4, x5, x6 => if x6 ≤ 16 then (if x6 < 16 then (if 0 ≤ (wrap64 ((wrap64 (x4 * 16)) + x6)) then (if (wrap64 ((wrap64 (x4 * 16)) + x6)) < (x0.length : Int) then (spec_runsOf.j2 k x0 x3 x4 x5 x6 (rdOf false x0 (wrap64 ((wrap64 (x4 * 16)) + x6)))) else (none)) else (none)) else (spec_runsOf.j2 k x0 x3 x4 x5 x6 false)) else (spec_runsOf.l0 k x0 x3 (wrap64 (x4 + 1)))
def spec_runsOf.j2 : Nat → List Bool → List (S57) → Int → Int → Int → Bool → Option ((List (S57)))
  | 0, _, _, _, _, _, _ => none
  | k + 1, x0, x3, x4, x5, x6, x7 => if x7 = true then (spec_runsOf.j3 k x0 x3 x4 x5 x6 x7 (decide (x5 < 0))) else (spec_runsOf.j3 k x0 x3 x4 x5 x6 x7 false)
def spec_runsOf.j3 : Nat → List Bool → List (S57) → Int → Int → Int → Bool → Bool → Option ((List (S57)))
  | 0, _, _, _, _, _, _, _ => none
  | k + 1, x0, x3, x4, x5, x6, x7, x32 => if x32 = true then (if x7 = true then (spec_runsOf.l1 k x0 x3 x4 x6 (wrap64 (x6 + 1))) else (if x6 ≥ 0 then (if x3.length < 5864062014805 then (spec_runsOf.l1 k x0 (x3 ++ [(⟨x4, x6, x6⟩ : S57)]) x4 (-1) (wrap64 (x6 + 1))) else (none)) else (spec_runsOf.l1 k x0 x3 x4 x6 (wrap64 (x6 + 1))))) else (if x7 = true then (spec_runsOf.l1 k x0 x3 x4 x5 (wrap64 (x6 + 1))) else (if x5 ≥ 0 then (if x3.length < 5864062014805 then (spec_runsOf.l1 k x0 (x3 ++ [(⟨x4, x5, x6⟩ : S57)]) x4 (-1) (wrap64 (x6 + 1))) else (none)) else (spec_runsOf.l1 k x0 x3 x4 x5 (wrap64 (x6 + 1)))))
end
def spec_runsOf.f (k : Nat) (l0 : List Bool) : Option ((List (S57))) := spec_runsOf.l0 k l0 (([] : List (S57))) 0
theorem spec_runsOf.mono_l : ∀ k, (∀ y0 y1 y2, LeO (spec_runsOf.l0 k y0 y1 y2) (spec_runsOf.l0 (k + 1) y0 y1 y2)) ∧ (∀ y0 y1 y2 y3 y4, LeO (spec_runsOf.l1 k y0 y1 y2 y3 y4) (spec_runsOf.l1 (k + 1) y0 y1 y2 y3 y4)) ∧ (∀ y0 y1 y2 y3 y4 y5, LeO (spec_runsOf.j2 k y0 y1 y2 y3 y4 y5) (spec_runsOf.j2 (k + 1) y0 y1 y2 y3 y4 y5)) ∧ (∀ y0 y1 y2 y3 y4 y5 y6, LeO (spec_runsOf.j3 k y0 y1 y2 y3 y4 y5 y6) (spec_runsOf.j3 (k + 1) y0 y1 y2 y3 y4 y5 y6))
  | 0 => ⟨fun _ _ _ r h => by simp [spec_runsOf.l0] at h, fun _ _ _ _ _ r h => by simp [spec_runsOf.l1] at h, fun _ _ _ _ _ _ r h => by simp [spec_runsOf.j2] at h, fun _ _ _ _ _ _ _ r h => by simp [spec_runsOf.j3] at h⟩
  | k + 1 => by
    obtain ⟨ih0, ih1, ih2, ih3⟩ := spec_runsOf.mono_l k
    refine ⟨?_, ?_, ?_, ?_⟩
    · intro y0 y1 y2
      unfold spec_runsOf.l0
      repeat' first
      | (with_reducible exact ih0 _ _ _)
      | (with_reducible exact ih1 _ _ _ _ _)
      | (with_reducible exact ih2 _ _ _ _ _ _)
      | (with_reducible exact ih3 _ _ _ _ _ _ _)
      | (with_reducible exact LeO.refl _)
      | (with_reducible exact LeO.none _)
      | (with_reducible refine LeO.ite ?_ ?_)
      | (with_reducible refine LeO.bind ?_ (fun _ => ?_))
      | exact ih0 _ _ _
      | exact ih1 _ _ _ _ _
      | exact ih2 _ _ _ _ _ _
      | exact ih3 _ _ _ _ _ _ _
      | exact LeO.none _
      | refine LeO.ite ?_ ?_
      | refine LeO.bind ?_ (fun _ => ?_)
    · intro y0 y1 y2 y3 y4
      unfold spec_runsOf.l1
      repeat' first
      | (with_reducible exact ih0 _ _ _)
      | (with_reducible exact ih1 _ _ _ _ _)
      | (with_reducible exact ih2 _ _ _ _ _ _)
      | (with_reducible exact ih3 _ _ _ _ _ _ _)
      | (with_reducible exact LeO.refl _)
      | (with_reducible exact LeO.none _)
      | (with_reducible refine LeO.ite ?_ ?_)
      | (with_reducible refine LeO.bind ?_ (fun _ => ?_))
      | exact ih0 _ _ _
      | exact ih1 _ _ _ _ _
      | exact ih2 _ _ _ _ _ _
      | exact ih3 _ _ _ _ _ _ _
      | exact LeO.none _
      | refine LeO.ite ?_ ?_
      | refine LeO.bind ?_ (fun _ => ?_)
    · intro y0 y1 y2 y3 y4 y5
      unfold spec_runsOf.j2
      repeat' first
      | (with_reducible exact ih0 _ _ _)
      | (with_reducible exact ih1 _ _ _ _ _)
      | (with_reducible exact ih2 _ _ _ _ _ _)
      | (with_reducible exact ih3 _ _ _ _ _ _ _)
      | (with_reducible exact LeO.refl _)
      | (with_reducible exact LeO.none _)
      | (with_reducible refine LeO.ite ?_ ?_)
      | (with_reducible refine LeO.bind ?_ (fun _ => ?_))
      | exact ih0 _ _ _
      | exact ih1 _ _ _ _ _
      | exact ih2 _ _ _ _ _ _
      | exact ih3 _ _ _ _ _ _ _
      | exact LeO.none _
      | refine LeO.ite ?_ ?_
      | refine LeO.bind ?_ (fun _ => ?_)
    · intro y0 y1 y2 y3 y4 y5 y6
      unfold spec_runsOf.j3
      repeat' first
      | (with_reducible exact ih0 _ _ _)
      | (with_reducible exact ih1 _ _ _ _ _)
      | (with_reducible exact ih2 _ _ _ _ _ _)
      | (with_reducible exact ih3 _ _ _ _ _ _ _)
      | (with_reducible exact LeO.refl _)
      | (with_reducible exact LeO.none _)
      | (with_reducible refine LeO.ite ?_ ?_)
      | (with_reducible refine LeO.bind ?_ (fun _ => ?_))
      | exact ih0 _ _ _
      | exact ih1 _ _ _ _ _
      | exact ih2 _ _ _ _ _ _
      | exact ih3 _ _ _ _ _ _ _
      | exact LeO.none _
      | refine LeO.ite ?_ ?_
      | refine LeO.bind ?_ (fun _ => ?_)
theorem spec_runsOf.mono : ∀ a0 k, LeO (spec_runsOf.f k a0) (spec_runsOf.f (k + 1) a0) := by
  intro a0 k
  obtain ⟨ih0, ih1, ih2, ih3⟩ := spec_runsOf.mono_l k
  unfold spec_runsOf.f
  repeat' first
      | (with_reducible exact ih0 _ _ _)
      | (with_reducible exact ih1 _ _ _ _ _)
      | (with_reducible exact ih2 _ _ _ _ _ _)
      | (with_reducible exact ih3 _ _ _ _ _ _ _)
      | (with_reducible exact LeO.refl _)
      | (with_reducible exact LeO.none _)
      | (with_reducible refine LeO.ite ?_ ?_)
      | (with_reducible refine LeO.bind ?_ (fun _ => ?_))
      | exact ih0 _ _ _
      | exact ih1 _ _ _ _ _
      | exact ih2 _ _ _ _ _ _
      | exact ih3 _ _ _ _ _ _ _
      | exact LeO.none _
      | refine LeO.ite ?_ ?_
      | refine LeO.bind ?_ (fun _ => ?_)
set_option maxHeartbeats 8000000 in
set_option maxRecDepth 100000 in
theorem spec_runsOf.calls (k : Nat) (A0 : Option Addr) (c0 : Nat) (l0 : List Bool) (r : List (S57)) (w : World) (hr0 : Kd.C Kd.bool w A0 l0.length l0) (hc0 : l0.length ≤ c0) (h : spec_runsOf.f k l0 = some r) :
    Calls Try.prog 73 #[.slice A0 l0.length c0] w fun e w' => ∃ v0_ : Value, e = .returned (v0_) ∧ Kd.R k57 57 w' w.heap.size (fun _ => True) v0_ r ∧ Below w.heap.size w w' := by
  have hu57 := Try.underlying57
  have HR0 := Aside0.mk hr0
  have HC0 := Aside0.mk hc0
  clear hr0 hc0
  have HB := Aside0.mk (Below.refl w.heap.size w)
  have H : (spec_runsOf.l0 k l0 (([] : List (S57))) 0) = some r := h
  clear h
  obtain ⟨y74001, hy74001⟩ : ∃ y_ : List (S57), y_ = (([] : List (S57))) := ⟨_, rfl⟩
  replace H : (spec_runsOf.l0 k l0 y74001 0) = some r := by first | (rw [hy74001]; with_reducible exact H) | (have H2_ := (Option.bind_some _ _).symm.trans H; rw [hy74001]; with_reducible exact H2_) | (have H2_ := (Option.bind_some _ _).symm.trans H; with_reducible exact H2_) | with_reducible exact H | (rw [hy74001]; exact H) | exact H
  have Ny74001 := Aside0.mk hy74001
  clear hy74001
  have H' := Aside0.mk H
  clear H
  go_enter Try.func73, Try.ntmps73
  go_wp2_with (first | ((with_reducible refine gate_dst (N := 8) rfl ?_); refine Kd.R_lit k57 _ 57 ?hg (N := 8) ?hd (xs := ([] : List (S57))) (inner := []) (ok := fun _ => True) (okp := fun _ => True) ?hr ?hp (fun _ hk => hk) trivial (Below.refl _ _) (Nat.le_refl _) (by simp) ?_; (case hd => rfl); (case hg => rfl); (case hr => first | (go_simp; done) | (go_simp; rfl)); (case hp => exact (Reps.none _ _)); intro v74002 w2 ho3 hb hg_ hnew_; clear hg_ hnew_; (first | rw [← Ny74001.out] at ho3 | (simp only [Int.reduceToNat] at ho3; rw [← Ny74001.out] at ho3)); have n0_ := Aside0.mk (Kd.R_lower ho3 (below_size (by repeat (first | (with_reducible first | exact HB.out | apply below_alloc | apply pw_below_drewN | apply below_drew1) | exact HB.out)))); have n1_ := Aside0.mk (below_step (by repeat (first | (with_reducible first | exact HB.out | apply below_alloc | apply pw_below_drewN | apply below_drew1) | exact HB.out)) hb); clear HB; have HO74003 := n0_; have HB := n1_; clear n0_ n1_; clear hb ho3))
  go_loopg [3, 4] k (fun kq v3 v4 w' => ∃ (x3_1 : List (S57)) (x4_1 : Int), v4 = .int .i64 x4_1 ∧ Aside0 (spec_runsOf.l0 kq l0 x3_1 x4_1 = some r) ∧ Aside0 (kq ≤ k) ∧ Aside0 (Kd.R k57 57 w' w.heap.size (fun _ => True) v3 x3_1) ∧ Aside0 (Below w.heap.size w w'))
  case atStart => exact ⟨(y74001), (0), (by first | rfl | (simp; done) | (simp [*]; done)), H', ⟨Nat.le_refl _⟩, ⟨by (with_reducible repeat (first | apply Kd.R_alloc | apply Kd.R_drewN | apply Kd.R_drew)); exact HO74003.out⟩, ⟨by repeat (first | (with_reducible first | exact HB.out | apply below_alloc | apply pw_below_drewN | apply below_drew1) | exact HB.out)⟩⟩
  case round =>
    clear H'
    try clear p2
    obtain ⟨x3_1, x4_1, rfl, HA, HK1, HO_3, HB⟩ := hrel
    cases gk with
    | zero => exact absurd HA.out (by simp [spec_runsOf.l0])
    | succ k1 =>
      have H := HA.out
      clear HA
      simp only [spec_runsOf.l0] at H
      by_cases c4 : x4_1 < 16
      · rw [if_pos c4] at H
        have c4b0 : decide (x4_1 < 16) = true := decide_eq_true c4
        clear c4
        have H' := Aside0.mk H
        clear H
        go_wp2
        go_loopg [3, 5, 6] k1 (fun kq v3 v5 v6 w' => ∃ (x3_2 : List (S57)) (x5_2 : Int) (x6_2 : Int), v5 = .int .i64 x5_2 ∧ v6 = .int .i64 x6_2 ∧ Aside0 (spec_runsOf.l1 kq l0 x3_2 x4_1 x5_2 x6_2 = some r) ∧ Aside0 (kq ≤ k1) ∧ Aside0 (Kd.R k57 57 w' w.heap.size (fun _ => True) v3 x3_2) ∧ Aside0 (Below w.heap.size w w'))
        case atStart => exact ⟨(x3_1), ((-1)), (0), (by first | rfl | (simp; done) | (simp [*]; done)), (by first | rfl | (simp; done) | (simp [*]; done)), H', ⟨Nat.le_refl _⟩, ⟨by (with_reducible repeat (first | apply Kd.R_alloc | apply Kd.R_drewN | apply Kd.R_drew)); exact HO_3.out⟩, ⟨by repeat (first | (with_reducible first | exact HB.out | apply below_alloc | apply pw_below_drewN | apply below_drew1) | exact HB.out)⟩⟩
        case round =>
          clear H'
          try clear p2
          try clear c4
          try clear c4b0
          try clear p2
          obtain ⟨x3_2, x5_2, x6_2, rfl, rfl, HA, HK2, HO_3, HB⟩ := hrel
          cases gk with
          | zero => exact absurd HA.out (by simp [spec_runsOf.l1])
          | succ k2 =>
            have H := HA.out
            clear HA
            simp only [spec_runsOf.l1] at H
            by_cases c5 : x6_2 ≤ 16
            · rw [if_pos c5] at H
              have c5b0 : decide (x6_2 ≤ 16) = true := decide_eq_true c5
              clear c5
              have HC6 := Aside0.mk H
              clear H
              go_upto_region 9 with (fail)
              go_cut [7] (fun v7 wc => ∃ (kq : Nat) (x7_5 : Bool), v7 = .bool x7_5 ∧ Aside0 (spec_runsOf.j2 kq l0 x3_2 x4_1 x5_2 x6_2 x7_5 = some r) ∧ Aside0 (kq ≤ k2) ∧ Aside0 (Kd.R k57 57 wc w.heap.size (fun _ => True) u3 x3_2) ∧ Aside0 (Below w.heap.size w wc))
              case first =>
                have H := HC6.out
                clear HC6
                by_cases c7 : x6_2 < 16
                · rw [if_pos c7] at H
                  have c7b0 : decide (x6_2 < 16) = true := decide_eq_true c7
                  clear c7
                  (first | rw [c7b0] | (simp only [i64_w, i32_w]; rw [c7b0]) | skip)
                  obtain ⟨ji8, hji8⟩ : ∃ j_ : Int, (wrap64 ((wrap64 (x4_1 * 16)) + x6_2)) = j_ := ⟨_, rfl⟩
                  replace H : (if 0 ≤ (ji8) then (if (ji8) < (l0.length : Int) then (spec_runsOf.j2 k2 l0 x3_2 x4_1 x5_2 x6_2 (rdOf false l0 (ji8))) else (none)) else (none)) = some r := by first | (rw [hji8] at H; exact H) | (simp only [hji8] at H ⊢; exact H)
                  have hji8w : (IntKind.i64.wrap ((wrap64 (x4_1 * 16)) + x6_2)) = ji8 := (i64_w _).trans hji8
                  by_cases c9 : 0 ≤ (ji8)
                  · rw [if_pos c9] at H
                    have c9b0 : decide (0 ≤ (ji8)) = true := decide_eq_true c9
                    clear c9
                    by_cases c10 : (ji8) < (l0.length : Int)
                    · rw [if_pos c10] at H
                      have c10b0 : decide ((ji8) < (l0.length : Int)) = true := decide_eq_true c10
                      clear c10
                      have H' := Aside0.mk H
                      clear H
                      have p74004 : 0 ≤ ((ji8) : Int) := of_decide_eq_true (by first | (with_reducible assumption) | assumption)
                      have q74004 : (ji8) < (l0.length : Int) := of_decide_eq_true (by first | (with_reducible assumption) | assumption)
                      obtain ⟨ad74004, e74004, hx74004_0⟩ := Kd.at_bool HR0.out (ji8) p74004 q74004
                      cases e74004
                      replace hx74004_0 := (HB.out.cell (World.block_lt_of_cell? w _ hx74004_0)).trans hx74004_0
                      replace p74004 := eq_true p74004
                      replace q74004 := eq_true q74004
                      go_wp2
                      go_meet
                      case rel => exact ⟨_, (rdOf false l0 (ji8)), (by first | rfl | (simp; done) | (simp only [← hji8] <;> (first | rfl | simp)) | (simp [*]; done)), H', ⟨by have := HK1.out; have := HK2.out; first | omega | exact Nat.le_refl _⟩, ⟨by (with_reducible repeat (first | apply Kd.R_alloc | apply Kd.R_drewN | apply Kd.R_drew)); exact HO_3.out⟩, ⟨by repeat (first | (with_reducible first | exact HB.out | apply below_alloc | apply pw_below_drewN | apply below_drew1) | exact HB.out)⟩⟩
                    · rw [if_neg c10] at H
                      exact absurd H (by simp)
                  · rw [if_neg c9] at H
                    exact absurd H (by simp)
                · rw [if_neg c7] at H
                  have c7b0 : decide (x6_2 < 16) = false := decide_eq_false c7
                  clear c7
                  (first | rw [c7b0] | (simp only [i64_w, i32_w]; rw [c7b0]) | skip)
                  have H' := Aside0.mk H
                  clear H
                  go_wp2
                  go_meet
                  case rel => exact ⟨_, (false), (by first | rfl | (simp; done) | (simp [*]; done)), H', ⟨by have := HK1.out; have := HK2.out; first | omega | exact Nat.le_refl _⟩, ⟨by (with_reducible repeat (first | apply Kd.R_alloc | apply Kd.R_drewN | apply Kd.R_drew)); exact HO_3.out⟩, ⟨by repeat (first | (with_reducible first | exact HB.out | apply below_alloc | apply pw_below_drewN | apply below_drew1) | exact HB.out)⟩⟩
              case rest =>
                clear HC6
                try clear c1
                try clear p2
                try clear c4
                try clear c4b0
                try clear c5
                try clear c5b0
                try clear p6
                try clear c7
                try clear c7b0
                try clear p7
                try clear q7
                try clear hx7
                try clear c9
                try clear c9b0
                try clear c10
                try clear c10b0
                try clear hx74004_0
                try clear p2
                try clear p74004
                try clear q74004
                obtain ⟨kq, x7_5, rfl, HA, HJ5, HO_3, HB⟩ := hcut
                cases kq with
                | zero => exact absurd HA.out (by simp [spec_runsOf.j2])
                | succ kj5 =>
                  have H := HA.out
                  clear HA
                  simp only [spec_runsOf.j2] at H
                  have HC11 := Aside0.mk H
                  clear H
                  go_upto_region 10 with (fail)
                  go_cut [32] (fun v32 wc => ∃ (kq : Nat) (x32_10 : Bool), v32 = .bool x32_10 ∧ Aside0 (spec_runsOf.j3 kq l0 x3_2 x4_1 x5_2 x6_2 x7_5 x32_10 = some r) ∧ Aside0 (kq ≤ kj5) ∧ Aside0 (Kd.R k57 57 wc w.heap.size (fun _ => True) u3 x3_2) ∧ Aside0 (Below w.heap.size w wc))
                  case first =>
                    have H := HC11.out
                    clear HC11
                    by_cases c12 : x7_5 = true
                    · subst c12
                      have H1 : (spec_runsOf.j3 kj5 l0 x3_2 x4_1 x5_2 x6_2 true (decide (x5_2 < 0))) = some r := by rw [if_pos rfl] at H; exact H
                      clear H
                      have H := H1
                      clear H1
                      have H' := Aside0.mk H
                      clear H
                      go_wp2
                      go_meet
                      case rel => exact ⟨_, (decide (x5_2 < 0)), (by first | rfl | (simp; done) | (simp [*]; done)), H', ⟨by have := HK1.out; have := HK2.out; have := HJ5.out; first | omega | exact Nat.le_refl _⟩, ⟨by (with_reducible repeat (first | apply Kd.R_alloc | apply Kd.R_drewN | apply Kd.R_drew)); exact HO_3.out⟩, ⟨by repeat (first | (with_reducible first | exact HB.out | apply below_alloc | apply pw_below_drewN | apply below_drew1) | exact HB.out)⟩⟩
                    · replace c12 := Bool.eq_false_iff.mpr c12
                      subst c12
                      have H1 : (spec_runsOf.j3 kj5 l0 x3_2 x4_1 x5_2 x6_2 false false) = some r := by rw [if_neg (show ¬ (false = true) by decide)] at H; exact H
                      clear H
                      have H := H1
                      clear H1
                      have H' := Aside0.mk H
                      clear H
                      go_wp2
                      go_meet
                      case rel => exact ⟨_, (false), (by first | rfl | (simp; done) | (simp [*]; done)), H', ⟨by have := HK1.out; have := HK2.out; have := HJ5.out; first | omega | exact Nat.le_refl _⟩, ⟨by (with_reducible repeat (first | apply Kd.R_alloc | apply Kd.R_drewN | apply Kd.R_drew)); exact HO_3.out⟩, ⟨by repeat (first | (with_reducible first | exact HB.out | apply below_alloc | apply pw_below_drewN | apply below_drew1) | exact HB.out)⟩⟩
                  case rest =>
                    clear HC11
                    try clear c1
                    try clear p2
                    try clear c4
                    try clear c4b0
                    try clear c5
                    try clear c5b0
                    try clear p6
                    try clear c7
                    try clear c7b0
                    try clear p7
                    try clear q7
                    try clear hx7
                    try clear c9
                    try clear c9b0
                    try clear c10
                    try clear c10b0
                    try clear c12
                    try clear hx74004_0
                    try clear p2
                    try clear p6
                    try clear p7
                    try clear p74004
                    try clear q7
                    try clear q74004
                    obtain ⟨kq, x32_10, rfl, HA, HJ10, HO_3, HB⟩ := hcut
                    cases kq with
                    | zero => exact absurd HA.out (by simp [spec_runsOf.j3])
                    | succ kj10 =>
                      have H := HA.out
                      clear HA
                      simp only [spec_runsOf.j3] at H
                      by_cases c13 : x32_10 = true
                      · subst c13
                        have H1 : (if x7_5 = true then (spec_runsOf.l1 kj10 l0 x3_2 x4_1 x6_2 (wrap64 (x6_2 + 1))) else (if x6_2 ≥ 0 then (if x3_2.length < 5864062014805 then (spec_runsOf.l1 kj10 l0 (x3_2 ++ [(⟨x4_1, x6_2, x6_2⟩ : S57)]) x4_1 (-1) (wrap64 (x6_2 + 1))) else (none)) else (spec_runsOf.l1 kj10 l0 x3_2 x4_1 x6_2 (wrap64 (x6_2 + 1))))) = some r := by rw [if_pos rfl] at H; exact H
                        clear H
                        have H := H1
                        clear H1
                        by_cases c14 : x7_5 = true
                        · subst c14
                          have H1 : (spec_runsOf.l1 kj10 l0 x3_2 x4_1 x6_2 (wrap64 (x6_2 + 1))) = some r := by rw [if_pos rfl] at H; exact H
                          clear H
                          have H := H1
                          clear H1
                          have H' := Aside0.mk H
                          clear H
                          go_wp2
                          go_roundg kj10
                          case measure => have := HK1.out; have := HK2.out; have := HJ5.out; have := HJ10.out; omega
                          case rel => exact ⟨(x3_2), (x6_2), (wrap64 (x6_2 + 1)), (by first | rfl | (simp; done) | (simp [*]; done)), (by first | rfl | (simp; done) | (simp [*]; done)), H', ⟨by have := HK1.out; have := HK2.out; have := HJ5.out; have := HJ10.out; omega⟩, ⟨by (with_reducible repeat (first | apply Kd.R_alloc | apply Kd.R_drewN | apply Kd.R_drew)); exact HO_3.out⟩, ⟨by repeat (first | (with_reducible first | exact HB.out | apply below_alloc | apply pw_below_drewN | apply below_drew1) | exact HB.out)⟩⟩
                        · replace c14 := Bool.eq_false_iff.mpr c14
                          subst c14
                          have H1 : (if x6_2 ≥ 0 then (if x3_2.length < 5864062014805 then (spec_runsOf.l1 kj10 l0 (x3_2 ++ [(⟨x4_1, x6_2, x6_2⟩ : S57)]) x4_1 (-1) (wrap64 (x6_2 + 1))) else (none)) else (spec_runsOf.l1 kj10 l0 x3_2 x4_1 x6_2 (wrap64 (x6_2 + 1)))) = some r := by rw [if_neg (show ¬ (false = true) by decide)] at H; exact H
                          clear H
                          have H := H1
                          clear H1
                          by_cases c15 : x6_2 ≥ 0
                          · rw [if_pos c15] at H
                            have c15b0 : decide (0 ≤ x6_2) = true := decide_eq_true c15
                            clear c15
                            by_cases c16 : x3_2.length < 5864062014805
                            · rw [if_pos c16] at H
                              have LMc16 := Aside0.mk c16
                              clear c16
                              obtain ⟨y74005, hy74005⟩ : ∃ y_ : List (S57), y_ = (x3_2 ++ [(⟨x4_1, x6_2, x6_2⟩ : S57)]) := ⟨_, rfl⟩
                              replace H : (spec_runsOf.l1 kj10 l0 y74005 x4_1 (-1) (wrap64 (x6_2 + 1))) = some r := by first | (rw [hy74005]; with_reducible exact H) | (have H2_ := (Option.bind_some _ _).symm.trans H; rw [hy74005]; with_reducible exact H2_) | (have H2_ := (Option.bind_some _ _).symm.trans H; with_reducible exact H2_) | with_reducible exact H | (rw [hy74005]; exact H) | exact H
                              have Ny74005 := Aside0.mk hy74005
                              clear hy74005
                              have H' := Aside0.mk H
                              clear H
                              go_wp2_with (first | ((with_reducible refine gate_builtin (b := .append) (xs := #[.tmp 40, .tmp 45]) rfl ?_); at_builtin; refine Kd.R_append k57 (w0 := w) w.heap.size rfl (.tmp 40) (.tmp 45) 25 57 (.agg #[(.int .i64 0), (.int .i64 0), (.int .i64 0)]) 24 rfl Try.underlying25 info57 rfl (by decide) (by omega) u3 x3_2 (⟨x4_1, x6_2, x6_2⟩ : S57) [.int .i64 x4_1, .int .i64 x6_2, .int .i64 x6_2] (fun _ => True) (fun _ => False) rfl rfl ?aP (fun _ hk => hk.elim) ?aF ?aO ?aB ?aS ?aL ?_; (case aP => exact k57_mkM _ _ _ (⟨x4_1, x6_2, x6_2⟩ : S57)); (case aB => exact (by repeat (first | (with_reducible first | exact HB.out | apply below_alloc | apply pw_below_drewN | apply below_drew1) | exact HB.out))); (case aF => exact (fun _ _ => trivial)); (case aO => exact (by (with_reducible repeat (first | apply Kd.R_alloc | apply Kd.R_drewN | apply Kd.R_drew)); exact HO_3.out)); (case aS => exact (below_size (by repeat (first | (with_reducible first | exact HB.out | apply below_alloc | apply pw_below_drewN | apply below_drew1) | exact HB.out)))); (case aL => have := LMc16.out; omega); intro v74006 w17 ho hb hg hat; rw [← Ny74005.out] at ho; have n0_ := Aside0.mk (hb); have n1_ := Aside0.mk (ho); clear HB; clear HO_3; have HB := n0_; have HO74007 := n1_; clear n0_ n1_; clear ho hb hg hat))
                              go_roundg kj10
                              case measure => have := HK1.out; have := HK2.out; have := HJ5.out; have := HJ10.out; omega
                              case rel => exact ⟨(y74005), ((-1)), (wrap64 (x6_2 + 1)), (by first | rfl | (simp; done) | (simp [*]; done)), (by first | rfl | (simp; done) | (simp [*]; done)), H', ⟨by have := HK1.out; have := HK2.out; have := HJ5.out; have := HJ10.out; omega⟩, ⟨by (with_reducible repeat (first | apply Kd.R_alloc | apply Kd.R_drewN | apply Kd.R_drew)); exact HO74007.out⟩, ⟨by repeat (first | (with_reducible first | exact HB.out | apply below_alloc | apply pw_below_drewN | apply below_drew1) | exact HB.out)⟩⟩
                            · rw [if_neg c16] at H
                              exact absurd H (by simp)
                          · rw [if_neg c15] at H
                            have c15b0 : decide (0 ≤ x6_2) = false := decide_eq_false c15
                            clear c15
                            have H' := Aside0.mk H
                            clear H
                            go_wp2
                            go_roundg kj10
                            case measure => have := HK1.out; have := HK2.out; have := HJ5.out; have := HJ10.out; omega
                            case rel => exact ⟨(x3_2), (x6_2), (wrap64 (x6_2 + 1)), (by first | rfl | (simp; done) | (simp [*]; done)), (by first | rfl | (simp; done) | (simp [*]; done)), H', ⟨by have := HK1.out; have := HK2.out; have := HJ5.out; have := HJ10.out; omega⟩, ⟨by (with_reducible repeat (first | apply Kd.R_alloc | apply Kd.R_drewN | apply Kd.R_drew)); exact HO_3.out⟩, ⟨by repeat (first | (with_reducible first | exact HB.out | apply below_alloc | apply pw_below_drewN | apply below_drew1) | exact HB.out)⟩⟩
                      · replace c13 := Bool.eq_false_iff.mpr c13
                        subst c13
                        have H1 : (if x7_5 = true then (spec_runsOf.l1 kj10 l0 x3_2 x4_1 x5_2 (wrap64 (x6_2 + 1))) else (if x5_2 ≥ 0 then (if x3_2.length < 5864062014805 then (spec_runsOf.l1 kj10 l0 (x3_2 ++ [(⟨x4_1, x5_2, x6_2⟩ : S57)]) x4_1 (-1) (wrap64 (x6_2 + 1))) else (none)) else (spec_runsOf.l1 kj10 l0 x3_2 x4_1 x5_2 (wrap64 (x6_2 + 1))))) = some r := by rw [if_neg (show ¬ (false = true) by decide)] at H; exact H
                        clear H
                        have H := H1
                        clear H1
                        by_cases c18 : x7_5 = true
                        · subst c18
                          have H1 : (spec_runsOf.l1 kj10 l0 x3_2 x4_1 x5_2 (wrap64 (x6_2 + 1))) = some r := by rw [if_pos rfl] at H; exact H
                          clear H
                          have H := H1
                          clear H1
                          have H' := Aside0.mk H
                          clear H
                          go_wp2
                          go_roundg kj10
                          case measure => have := HK1.out; have := HK2.out; have := HJ5.out; have := HJ10.out; omega
                          case rel => exact ⟨(x3_2), (x5_2), (wrap64 (x6_2 + 1)), (by first | rfl | (simp; done) | (simp [*]; done)), (by first | rfl | (simp; done) | (simp [*]; done)), H', ⟨by have := HK1.out; have := HK2.out; have := HJ5.out; have := HJ10.out; omega⟩, ⟨by (with_reducible repeat (first | apply Kd.R_alloc | apply Kd.R_drewN | apply Kd.R_drew)); exact HO_3.out⟩, ⟨by repeat (first | (with_reducible first | exact HB.out | apply below_alloc | apply pw_below_drewN | apply below_drew1) | exact HB.out)⟩⟩
                        · replace c18 := Bool.eq_false_iff.mpr c18
                          subst c18
                          have H1 : (if x5_2 ≥ 0 then (if x3_2.length < 5864062014805 then (spec_runsOf.l1 kj10 l0 (x3_2 ++ [(⟨x4_1, x5_2, x6_2⟩ : S57)]) x4_1 (-1) (wrap64 (x6_2 + 1))) else (none)) else (spec_runsOf.l1 kj10 l0 x3_2 x4_1 x5_2 (wrap64 (x6_2 + 1)))) = some r := by rw [if_neg (show ¬ (false = true) by decide)] at H; exact H
                          clear H
                          have H := H1
                          clear H1
                          by_cases c19 : x5_2 ≥ 0
                          · rw [if_pos c19] at H
                            have c19b0 : decide (0 ≤ x5_2) = true := decide_eq_true c19
                            clear c19
                            by_cases c20 : x3_2.length < 5864062014805
                            · rw [if_pos c20] at H
                              have LMc20 := Aside0.mk c20
                              clear c20
                              obtain ⟨y74008, hy74008⟩ : ∃ y_ : List (S57), y_ = (x3_2 ++ [(⟨x4_1, x5_2, x6_2⟩ : S57)]) := ⟨_, rfl⟩
                              replace H : (spec_runsOf.l1 kj10 l0 y74008 x4_1 (-1) (wrap64 (x6_2 + 1))) = some r := by first | (rw [hy74008]; with_reducible exact H) | (have H2_ := (Option.bind_some _ _).symm.trans H; rw [hy74008]; with_reducible exact H2_) | (have H2_ := (Option.bind_some _ _).symm.trans H; with_reducible exact H2_) | with_reducible exact H | (rw [hy74008]; exact H) | exact H
                              have Ny74008 := Aside0.mk hy74008
                              clear hy74008
                              have H' := Aside0.mk H
                              clear H
                              go_wp2_with (first | ((with_reducible refine gate_builtin (b := .append) (xs := #[.tmp 40, .tmp 45]) rfl ?_); at_builtin; refine Kd.R_append k57 (w0 := w) w.heap.size rfl (.tmp 40) (.tmp 45) 25 57 (.agg #[(.int .i64 0), (.int .i64 0), (.int .i64 0)]) 24 rfl Try.underlying25 info57 rfl (by decide) (by omega) u3 x3_2 (⟨x4_1, x5_2, x6_2⟩ : S57) [.int .i64 x4_1, .int .i64 x5_2, .int .i64 x6_2] (fun _ => True) (fun _ => False) rfl rfl ?aP (fun _ hk => hk.elim) ?aF ?aO ?aB ?aS ?aL ?_; (case aP => exact k57_mkM _ _ _ (⟨x4_1, x5_2, x6_2⟩ : S57)); (case aB => exact (by repeat (first | (with_reducible first | exact HB.out | apply below_alloc | apply pw_below_drewN | apply below_drew1) | exact HB.out))); (case aF => exact (fun _ _ => trivial)); (case aO => exact (by (with_reducible repeat (first | apply Kd.R_alloc | apply Kd.R_drewN | apply Kd.R_drew)); exact HO_3.out)); (case aS => exact (below_size (by repeat (first | (with_reducible first | exact HB.out | apply below_alloc | apply pw_below_drewN | apply below_drew1) | exact HB.out)))); (case aL => have := LMc20.out; omega); intro v74009 w21 ho hb hg hat; rw [← Ny74008.out] at ho; have n0_ := Aside0.mk (hb); have n1_ := Aside0.mk (ho); clear HB; clear HO_3; have HB := n0_; have HO74010 := n1_; clear n0_ n1_; clear ho hb hg hat))
                              go_roundg kj10
                              case measure => have := HK1.out; have := HK2.out; have := HJ5.out; have := HJ10.out; omega
                              case rel => exact ⟨(y74008), ((-1)), (wrap64 (x6_2 + 1)), (by first | rfl | (simp; done) | (simp [*]; done)), (by first | rfl | (simp; done) | (simp [*]; done)), H', ⟨by have := HK1.out; have := HK2.out; have := HJ5.out; have := HJ10.out; omega⟩, ⟨by (with_reducible repeat (first | apply Kd.R_alloc | apply Kd.R_drewN | apply Kd.R_drew)); exact HO74010.out⟩, ⟨by repeat (first | (with_reducible first | exact HB.out | apply below_alloc | apply pw_below_drewN | apply below_drew1) | exact HB.out)⟩⟩
                            · rw [if_neg c20] at H
                              exact absurd H (by simp)
                          · rw [if_neg c19] at H
                            have c19b0 : decide (0 ≤ x5_2) = false := decide_eq_false c19
                            clear c19
                            have H' := Aside0.mk H
                            clear H
                            go_wp2
                            go_roundg kj10
                            case measure => have := HK1.out; have := HK2.out; have := HJ5.out; have := HJ10.out; omega
                            case rel => exact ⟨(x3_2), (x5_2), (wrap64 (x6_2 + 1)), (by first | rfl | (simp; done) | (simp [*]; done)), (by first | rfl | (simp; done) | (simp [*]; done)), H', ⟨by have := HK1.out; have := HK2.out; have := HJ5.out; have := HJ10.out; omega⟩, ⟨by (with_reducible repeat (first | apply Kd.R_alloc | apply Kd.R_drewN | apply Kd.R_drew)); exact HO_3.out⟩, ⟨by repeat (first | (with_reducible first | exact HB.out | apply below_alloc | apply pw_below_drewN | apply below_drew1) | exact HB.out)⟩⟩
            · rw [if_neg c5] at H
              have c5b0 : decide (x6_2 ≤ 16) = false := decide_eq_false c5
              clear c5
              have H' := Aside0.mk H
              clear H
              go_wp2
              go_roundg k2
              case measure => have := HK1.out; have := HK2.out; omega
              case rel => exact ⟨(x3_2), (wrap64 (x4_1 + 1)), (by first | rfl | (simp; done) | (simp [*]; done)), H', ⟨by have := HK1.out; have := HK2.out; omega⟩, ⟨by (with_reducible repeat (first | apply Kd.R_alloc | apply Kd.R_drewN | apply Kd.R_drew)); exact HO_3.out⟩, ⟨by repeat (first | (with_reducible first | exact HB.out | apply below_alloc | apply pw_below_drewN | apply below_drew1) | exact HB.out)⟩⟩
      · rw [if_neg c4] at H
        have c4b0 : decide (x4_1 < 16) = false := decide_eq_false c4
        clear c4
        obtain rfl := Option.some.inj H
        go_wp2
        go_ret
        exact ⟨_, by first | rfl | (simp [errW_none, errW_some] <;> rfl) | (simp [*, errW_none, errW_some] <;> rfl), by (with_reducible repeat (first | apply Kd.R_alloc | apply Kd.R_drewN | apply Kd.R_drew)); exact HO_3.out, by repeat (first | (with_reducible first | exact HB.out | apply below_alloc | apply pw_below_drewN | apply below_drew1) | exact HB.out)⟩

end Go.Proofs.Ytfgeickfheogoaa.Q

/- Words of this session's own hand-made walks: where the first element lies for which a test holds; draws that follow each other. -/
namespace Go.Proofs.Ytfgeickfheogoaa.Q
open Go.RowKit Go.Proofs.YtfgeickfheogoaaW.PrintWords Go.Proofs.YtfgeickfheogoaaW.PrintLast Go.Proofs.YtfgeickfheogoaaW.PrintMore
attribute [local go_sem] max2_int min2_int max_two min_two max_three min_three max_four min_four
set_option linter.unusedVariables false
set_option linter.unusedSimpArgs false

/-- p fails at all that lies before k -/
def SawNone {α : Type} (p : α → Bool) (l : List α) (k : Nat) : Prop := ∀ j, j < k → ∀ h : j < l.length, p l[j] = false
theorem SawNone.succ {α : Type} {p : α → Bool} {l : List α} {k : Nat} (h : SawNone p l k) (hk : k < l.length) (hp : p l[k] = false) : SawNone p l (k + 1) := by
  intro j hj hl
  by_cases e : j = k
  · subst e; exact hp
  · exact h j (by omega) hl
theorem R_empty {α : Type} (d : Kd α) (e base : Nat) (W : World) (hb : base ≤ W.heap.size) : d.R e (W.alloc (.cells #[] e)) base (fun _ => True) (.slice (some ⟨W.heap.size, 0, none⟩) 0 0) [] :=
  ⟨fun _ _ => trivial, OwnRow.lit (ps := []) (inner := []) W base (Reps.none _ _) hb (by simp)⟩
end Go.Proofs.Ytfgeickfheogoaa.Q

/- Plain words: numbers that do not wrap, elements of lists, rounds that are enough. -/
namespace Go.Proofs.Ytfgeickfheogoaa.Pure
open Go.RowKit Go.Proofs.Ytfgeickfheogoaa.Q Go.Proofs.YtfgeickfheogoaaW.PrintWords Go.Proofs.YtfgeickfheogoaaW.PrintLast Go.Proofs.YtfgeickfheogoaaW.PrintMore
set_option linter.unusedVariables false
set_option linter.unusedSimpArgs false

theorem w64 {x : Int} (h1 : -9223372036854775808 ≤ x) (h2 : x ≤ 9223372036854775807) : wrap64 x = x := by unfold wrap64; omega
theorem w64n (n : Nat) (h : n < 9223372036854775807) : wrap64 ((n : Int) + 1) = ((n + 1 : Nat) : Int) := by unfold wrap64; omega
/-- From K rounds on. -/
theorem ev_of {α : Type} {g : Nat → Option α} {r : α} (K : Nat) (h : ∀ k, K < k → g k = some r) : Ev g r := ⟨K + 1, fun k hk => h k (by omega)⟩
theorem ev_const {α : Type} {o : Option α} {r : α} (h : o = some r) : Ev (fun _ => o) r := ⟨0, fun _ _ => h⟩
theorem ev_bind {α β : Type} {g : Nat → Option α} {f : Nat → α → Option β} {a : α} {r : β} (h : Ev g a) (k : Ev (fun n => f n a) r) : Ev (fun n => (g n).bind (f n)) r := Ev.bind h k
theorem ev_now {α β : Type} {o : Option α} {f : Nat → α → Option β} {a : α} {r : β} (h : o = some a) (k : Ev (fun n => f n a) r) : Ev (fun n => o.bind (f n)) r := Ev.bind (ev_const h) k
theorem ev_pos {α : Type} {c : Prop} [Decidable c] {f g : Nat → Option α} {r : α} (h : c) (k : Ev f r) : Ev (fun n => if c then f n else g n) r := by
  simpa [h] using k
theorem ev_neg {α : Type} {c : Prop} [Decidable c] {f g : Nat → Option α} {r : α} (h : ¬ c) (k : Ev g r) : Ev (fun n => if c then f n else g n) r := by
  simpa [h] using k
/-- A loop that counts up to n: what it answers from i on. -/
theorem loop_up {σ ρ : Type} (K n : Nat) (L : Nat → Nat → σ → Option ρ) (Inv : Nat → σ → Prop) (F : Nat → σ → ρ)
    (step : ∀ i s k, i < n → Inv i s → K ≤ k → (L (k + 1) i s = some (F i s)) ∨ ∃ s', L (k + 1) i s = L k (i + 1) s' ∧ Inv (i + 1) s' ∧ F (i + 1) s' = F i s)
    (last : ∀ s k, Inv n s → K ≤ k → L (k + 1) n s = some (F n s)) :
    ∀ d i s k, i + d = n → Inv i s → K + d < k → L k i s = some (F i s) := by
  intro d
  induction d with
  | zero =>
    intro i s k hi hinv hk
    obtain ⟨k, rfl⟩ : ∃ m, k = m + 1 := ⟨k - 1, by omega⟩
    have : i = n := by omega
    subst this
    exact last s k hinv (by omega)
  | succ d ih =>
    intro i s k hi hinv hk
    obtain ⟨k, rfl⟩ : ∃ m, k = m + 1 := ⟨k - 1, by omega⟩
    rcases step i s k (by omega) hinv (by omega) with h | ⟨s', h, hi', hF⟩
    · exact h
    · rw [h, ih (i + 1) s' k (by omega) hi' (by omega), hF]
/-- The same, from some number of rounds on: for loops in loops. -/
theorem ev_up {σ ρ : Type} (n : Nat) (L : Nat → Nat → σ → Option ρ) (Inv : Nat → σ → Prop) (F : Nat → σ → ρ)
    (step : ∀ i s, i < n → Inv i s → Ev (fun k => L k i s) (F i s) ∨ ∃ s', (∀ k, L (k + 1) i s = L k (i + 1) s') ∧ Inv (i + 1) s' ∧ F (i + 1) s' = F i s)
    (last : ∀ s, Inv n s → Ev (fun k => L k n s) (F n s)) :
    ∀ d i s, i + d = n → Inv i s → Ev (fun k => L k i s) (F i s) := by
  intro d
  induction d with
  | zero =>
    intro i s hi hinv
    have : i = n := by omega
    subst this
    exact last s hinv
  | succ d ih =>
    intro i s hi hinv
    rcases step i s (by omega) hinv with h | ⟨s', h, hi', hF⟩
    · exact h
    · rw [← hF]
      exact Ev.step h (ih (i + 1) s' (by omega) hi')
theorem ev_up2 {σ ρ : Type} (n : Nat) (L : Nat → Nat → σ → Option ρ) (Inv : Nat → σ → Prop) (F : Nat → σ → ρ)
    (step : ∀ i s, i < n → Inv i s → Ev (fun k => L k i s) (F i s) ∨ ∃ s', (∀ r, Ev (fun k => L k (i + 1) s') r → Ev (fun k => L k i s) r) ∧ Inv (i + 1) s' ∧ F (i + 1) s' = F i s)
    (last : ∀ s, Inv n s → Ev (fun k => L k n s) (F n s)) :
    ∀ d i s, i + d = n → Inv i s → Ev (fun k => L k i s) (F i s) := by
  intro d
  induction d with
  | zero =>
    intro i s hi hinv
    have : i = n := by omega
    subst this
    exact last s hinv
  | succ d ih =>
    intro i s hi hinv
    rcases step i s (by omega) hinv with h | ⟨s', h, hi', hF⟩
    · exact h
    · rw [← hF]
      exact h _ (ih (i + 1) s' (by omega) hi')
theorem ev_val {α : Type} {g : Nat → Option α} {r r' : α} (h : Ev g r) (e : r = r') : Ev g r' := e ▸ h
theorem take_set {α : Type} (s : List α) (i : Nat) (c : α) (h : i < s.length) : (s.set i c).take (i + 1) = s.take i ++ [c] := by
  rw [List.take_succ_eq_append_getElem (by simpa using h), List.take_set_of_le (Nat.le_refl i)]
  simp
end Go.Proofs.Ytfgeickfheogoaa.Pure

namespace Go.Proofs.Ytfgeickfheogoaa.Q
open Go.RowKit Go.Proofs.YtfgeickfheogoaaW.PrintWords Go.Proofs.YtfgeickfheogoaaW.PrintLast Go.Proofs.YtfgeickfheogoaaW.PrintMore
attribute [local go_sem] max2_int min2_int max_two min_two max_three min_three max_four min_four
set_option linter.unusedVariables false
set_option linter.unusedSimpArgs false
/-! ### impl_isRegion: function 55 -/
mutual
def impl_isRegion.l0 : Nat → List (S57) → List (S57) → Int → Int → Option (Bool)
  | 0, _, _, _, _ => none
  | k + 1, x0, x6, x7, x8 => if x8 < x7 then (if 0 ≤ x8 then (if x8 < (x6.length : Int) then (if ((rd_T57 x6 x8).f0) < 0 then (impl_isRegion.j1 k x0 x8 x6 x7 x8 true ((rd_T57 x6 x8).f0) ((rd_T57 x6 x8).f1) ((rd_T57 x6 x8).f2)) else (if ((rd_T57 x6 x8).f0) ≥ 16 then (impl_isRegion.j1 k x0 x8 x6 x7 x8 true ((rd_T57 x6 x8).f0) ((rd_T57 x6 x8).f1) ((rd_T57 x6 x8).f2)) else (if ((rd_T57 x6 x8).f1) < 0 then (impl_isRegion.j1 k x0 x8 x6 x7 x8 true ((rd_T57 x6 x8).f0) ((rd_T57 x6 x8).f1) ((rd_T57 x6 x8).f2)) else (if ((rd_T57 x6 x8).f2) ≤ ((rd_T57 x6 x8).f1) then (impl_isRegion.j1 k x0 x8 x6 x7 x8 true ((rd_T57 x6 x8).f0) ((rd_T57 x6 x8).f1) ((rd_T57 x6 x8).f2)) else (impl_isRegion.j1 k x0 x8 x6 x7 x8 (decide (((rd_T57 x6 x8).f2) > 16)) ((rd_T57 x6 x8).f0) ((rd_T57 x6 x8).f1) ((rd_T57 x6 x8).f2)))))) else (none)) else (none)) else (some true)
def impl_isRegion.j1 : Nat → List (S57) → Int → List (S57) → Int → Int → Bool → Int → Int → Int → Option (Bool)
  | 0, _, _, _, _, _, _, _, _, _ => none
  | k + 1, x0, x3, x6, x7, x8, x37, x56003000, x56003001, x56003002 => if x37 = true then (some false) else (if x3 = 0 then (impl_isRegion.l0 k x0 x6 x7 (wrap64 (x8 + 1))) else (if 0 ≤ (wrap64 (x3 - 1)) then (if (wrap64 (x3 - 1)) < (x0.length : Int) then (if x56003000 < ((rd_T57 x0 (wrap64 (x3 - 1))).f0) then (some false) else (if x56003000 = ((rd_T57 x0 (wrap64 (x3 - 1))).f0) then (if x56003001 ≤ ((rd_T57 x0 (wrap64 (x3 - 1))).f2) then (some false) else (impl_isRegion.l0 k x0 x6 x7 (wrap64 (x8 + 1)))) else (impl_isRegion.l0 k x0 x6 x7 (wrap64 (x8 + 1))))) else (none)) else (none)))
end
def impl_isRegion.f (k : Nat) (l0 : List (S57)) : Option (Bool) := impl_isRegion.l0 k l0 l0 (l0.length : Int) 0
theorem impl_isRegion.mono_l : ∀ k, (∀ y0 y1 y2 y3, LeO (impl_isRegion.l0 k y0 y1 y2 y3) (impl_isRegion.l0 (k + 1) y0 y1 y2 y3)) ∧ (∀ y0 y1 y2 y3 y4 y5 y6 y7 y8, LeO (impl_isRegion.j1 k y0 y1 y2 y3 y4 y5 y6 y7 y8) (impl_isRegion.j1 (k + 1) y0 y1 y2 y3 y4 y5 y6 y7 y8))
  | 0 => ⟨fun _ _ _ _ r h => by simp [impl_isRegion.l0] at h, fun _ _ _ _ _ _ _ _ _ r h => by simp [impl_isRegion.j1] at h⟩
  | k + 1 => by
    obtain ⟨ih0, ih1⟩ := impl_isRegion.mono_l k
    refine ⟨?_, ?_⟩
    · intro y0 y1 y2 y3
      unfold impl_isRegion.l0
      repeat' first
      | (with_reducible exact ih0 _ _ _ _)
      | (with_reducible exact ih1 _ _ _ _ _ _ _ _ _)
      | (with_reducible exact LeO.refl _)
      | (with_reducible exact LeO.none _)
      | (with_reducible refine LeO.ite ?_ ?_)
      | (with_reducible refine LeO.bind ?_ (fun _ => ?_))
      | exact ih0 _ _ _ _
      | exact ih1 _ _ _ _ _ _ _ _ _
      | exact LeO.none _
      | refine LeO.ite ?_ ?_
      | refine LeO.bind ?_ (fun _ => ?_)
    · intro y0 y1 y2 y3 y4 y5 y6 y7 y8
      unfold impl_isRegion.j1
      repeat' first
      | (with_reducible exact ih0 _ _ _ _)
      | (with_reducible exact ih1 _ _ _ _ _ _ _ _ _)
      | (with_reducible exact LeO.refl _)
      | (with_reducible exact LeO.none _)
      | (with_reducible refine LeO.ite ?_ ?_)
      | (with_reducible refine LeO.bind ?_ (fun _ => ?_))
      | exact ih0 _ _ _ _
      | exact ih1 _ _ _ _ _ _ _ _ _
      | exact LeO.none _
      | refine LeO.ite ?_ ?_
      | refine LeO.bind ?_ (fun _ => ?_)
theorem impl_isRegion.mono : ∀ a0 k, LeO (impl_isRegion.f k a0) (impl_isRegion.f (k + 1) a0) := by
  intro a0 k
  obtain ⟨ih0, ih1⟩ := impl_isRegion.mono_l k
  unfold impl_isRegion.f
  repeat' first
      | (with_reducible exact ih0 _ _ _ _)
      | (with_reducible exact ih1 _ _ _ _ _ _ _ _ _)
      | (with_reducible exact LeO.refl _)
      | (with_reducible exact LeO.none _)
      | (with_reducible refine LeO.ite ?_ ?_)
      | (with_reducible refine LeO.bind ?_ (fun _ => ?_))
      | exact ih0 _ _ _ _
      | exact ih1 _ _ _ _ _ _ _ _ _
      | exact LeO.none _
      | refine LeO.ite ?_ ?_
      | refine LeO.bind ?_ (fun _ => ?_)
set_option maxHeartbeats 8000000 in
set_option maxRecDepth 100000 in
theorem impl_isRegion.calls (k : Nat) (A0 : Option Addr) (c0 : Nat) (l0 : List (S57)) (r : Bool) (w : World) (hr0 : Kd.C k57 w A0 l0.length l0) (hc0 : l0.length ≤ c0) (h : impl_isRegion.f k l0 = some r) :
    Calls Try.prog 55 #[.slice A0 l0.length c0] w fun e w' => e = .returned (.bool r) ∧ Below w.heap.size w w' := by
  have hu57 := Try.underlying57
  have HR0 := Aside0.mk hr0
  have HC0 := Aside0.mk hc0
  clear hr0 hc0
  have HB := Aside0.mk (Below.refl w.heap.size w)
  have H : (impl_isRegion.l0 k l0 l0 (l0.length : Int) 0) = some r := h
  clear h
  have H' := Aside0.mk H
  clear H
  go_enter Try.func55, Try.ntmps55
  go_wp2
  go_loopg [8] k (fun kq v8 w' => ∃ (x8_1 : Int), v8 = .int .i64 x8_1 ∧ Aside0 (impl_isRegion.l0 kq l0 l0 (l0.length : Int) x8_1 = some r) ∧ Aside0 (kq ≤ k) ∧ Aside0 (Below w.heap.size w w'))
  case atStart => exact ⟨(0), (by first | rfl | (simp; done) | (simp [*]; done)), H', ⟨Nat.le_refl _⟩, ⟨by repeat (first | (with_reducible first | exact HB.out | apply below_alloc | apply pw_below_drewN | apply below_drew1) | exact HB.out)⟩⟩
  case round =>
    clear H'
    obtain ⟨x8_1, rfl, HA, HK1, HB⟩ := hrel
    cases gk with
    | zero => exact absurd HA.out (by simp [impl_isRegion.l0])
    | succ k1 =>
      have H := HA.out
      clear HA
      simp only [impl_isRegion.l0] at H
      by_cases c2 : x8_1 < (l0.length : Int)
      · rw [if_pos c2] at H
        have c2b0 : decide (x8_1 < (l0.length : Int)) = true := decide_eq_true c2
        clear c2
        by_cases c3 : 0 ≤ x8_1
        · rw [if_pos c3] at H
          have c3b0 : decide (0 ≤ x8_1) = true := decide_eq_true c3
          clear c3
          by_cases c4 : x8_1 < (l0.length : Int)
          · rw [if_pos c4] at H
            have c4b0 : decide (x8_1 < (l0.length : Int)) = true := decide_eq_true c4
            clear c4
            have HC5 := Aside0.mk H
            clear H
            have p56001 : 0 ≤ (x8_1 : Int) := of_decide_eq_true (by first | (with_reducible assumption) | assumption)
            have q56001 : x8_1 < (l0.length : Int) := of_decide_eq_true (by first | (with_reducible assumption) | assumption)
            obtain ⟨ad56001, e56001, hx56001_0, hx56001_1, hx56001_2⟩ := at_T57 HR0.out x8_1 p56001 q56001
            cases e56001
            replace hx56001_0 := (HB.out.cell (World.block_lt_of_cell? w _ hx56001_0)).trans hx56001_0
            replace hx56001_1 := (HB.out.cell (World.block_lt_of_cell? w _ hx56001_1)).trans hx56001_1
            replace hx56001_2 := (HB.out.cell (World.block_lt_of_cell? w _ hx56001_2)).trans hx56001_2
            replace p56001 := eq_true p56001
            replace q56001 := eq_true q56001
            go_upto_region 4 with (first | ((with_reducible refine gate_dst (N := 4) rfl ?_); refine box_event ?hg (N := 4) ?hd (cs := #[.int .i64 0, .int .i64 0, .int .i64 0]) (t := 57) ?hr ?_; (case hd => rfl); (case hg => rfl); (case hr => first | (go_simp; done) | (go_simp; rfl)); intro gb56002 hg w6 hbox hb; have n0_ := Aside0.mk (below_step (by repeat (first | (with_reducible first | exact HB.out | apply below_alloc | apply pw_below_drewN | apply below_drew1) | exact HB.out)) hb); have n1_ := Aside0.mk (hbox); have n2_ := Aside0.mk ((by rw [hg]; exact (below_size (by repeat (first | (with_reducible first | exact HB.out | apply below_alloc | apply pw_below_drewN | apply below_drew1) | exact HB.out))) : w.heap.size ≤ gb56002)); have n3_ := Aside0.mk ((by rw [hg]; exact (below_size (by repeat (first | (with_reducible first | exact HB.out | apply below_alloc | apply pw_below_drewN | apply below_drew1) | exact HB.out))) : w.heap.size ≤ gb56002)); clear HB; have HB := n0_; have BK56002 := n1_; have GW56002 := n2_; have GE56002 := n3_; clear n0_ n1_ n2_ n3_; clear hb hbox hg; have hcz7_0 : w6.cell? ⟨gb56002, 0, none⟩ = some (.int .i64 0) := (blk_cell BK56002.out 0).trans rfl; have hcz7_1 : w6.cell? ⟨gb56002, 1, none⟩ = some (.int .i64 0) := (blk_cell BK56002.out 1).trans rfl; have hcz7_2 : w6.cell? ⟨gb56002, 2, none⟩ = some (.int .i64 0) := (blk_cell BK56002.out 2).trans rfl; have hfz7_0 := blk_frozen BK56002.out 0; have hfz7_1 := blk_frozen BK56002.out 1; have hfz7_2 := blk_frozen BK56002.out 2))
            (try simp only [Act.put, List.setIfInBounds_toArray, List.set_cons_zero, List.set_cons_succ])
            go_cut [37] (fun v37 wc => ∃ (kq : Nat) (x37_4 : Bool), v37 = .bool x37_4 ∧ Aside0 (impl_isRegion.j1 kq l0 x8_1 l0 (l0.length : Int) x8_1 x37_4 ((rd_T57 l0 x8_1).f0) ((rd_T57 l0 x8_1).f1) ((rd_T57 l0 x8_1).f2) = some r) ∧ Aside0 (kq ≤ k1) ∧ Aside0 (wc.heap[gb56002]? = some (.cells #[.int .i64 ((rd_T57 l0 x8_1).f0), .int .i64 ((rd_T57 l0 x8_1).f1), .int .i64 ((rd_T57 l0 x8_1).f2)] 57 (0, 0))) ∧ Aside0 (Below w.heap.size w wc))
            case first =>
              have H := HC5.out
              clear HC5
              by_cases c8 : ((rd_T57 l0 x8_1).f0) < 0
              · rw [if_pos c8] at H
                have c8b0 : decide (((rd_T57 l0 x8_1).f0) < 0) = true := decide_eq_true c8
                clear c8
                (first | rw [c8b0] | (simp only [i64_w, i32_w]; rw [c8b0]) | skip)
                have H' := Aside0.mk H
                clear H
                have hcz9_0 : w6.cell? ⟨gb56002, 0, none⟩ = some (.int .i64 0) := (blk_cell BK56002.out 0).trans rfl
                have hcz9_1 : w6.cell? ⟨gb56002, 1, none⟩ = some (.int .i64 0) := (blk_cell BK56002.out 1).trans rfl
                have hcz9_2 : w6.cell? ⟨gb56002, 2, none⟩ = some (.int .i64 0) := (blk_cell BK56002.out 2).trans rfl
                have hfz9_0 := blk_frozen BK56002.out 0
                have hfz9_1 := blk_frozen BK56002.out 1
                have hfz9_2 := blk_frozen BK56002.out 2
                go_wp2
                go_meet
                case rel => exact ⟨_, (true), (by first | rfl | (simp; done) | (simp [*]; done)), H', ⟨by have := HK1.out; first | omega | exact Nat.le_refl _⟩, ⟨by (with_reducible repeat (first | refine blk_drewN ?_ _ | refine blk_drew ?_ | refine blk_alloc ?_ _)); refine blk_put (cs := #[.int .i64 ((rd_T57 l0 x8_1).f0), .int .i64 ((rd_T57 l0 x8_1).f1), .int .i64 0]) ?_ 2 _ rfl; (with_reducible repeat (first | refine blk_drewN ?_ _ | refine blk_drew ?_ | refine blk_alloc ?_ _)); refine blk_put (cs := #[.int .i64 ((rd_T57 l0 x8_1).f0), .int .i64 0, .int .i64 0]) ?_ 1 _ rfl; (with_reducible repeat (first | refine blk_drewN ?_ _ | refine blk_drew ?_ | refine blk_alloc ?_ _)); refine blk_put (cs := #[.int .i64 0, .int .i64 0, .int .i64 0]) ?_ 0 _ rfl; (with_reducible repeat (first | refine blk_drewN ?_ _ | refine blk_drew ?_ | refine blk_alloc ?_ _)); exact BK56002.out⟩, ⟨by repeat (first | (with_reducible first | exact HB.out | apply below_alloc | apply pw_below_drewN | apply below_drew1 | refine below_set ?_ GE56002.out) | exact HB.out)⟩⟩
              · rw [if_neg c8] at H
                have c8b0 : decide (((rd_T57 l0 x8_1).f0) < 0) = false := decide_eq_false c8
                clear c8
                (first | rw [c8b0] | (simp only [i64_w, i32_w]; rw [c8b0]) | skip)
                by_cases c10 : ((rd_T57 l0 x8_1).f0) ≥ 16
                · rw [if_pos c10] at H
                  have c10b0 : decide (16 ≤ ((rd_T57 l0 x8_1).f0)) = true := decide_eq_true c10
                  clear c10
                  have H' := Aside0.mk H
                  clear H
                  have hcz11_0 : w6.cell? ⟨gb56002, 0, none⟩ = some (.int .i64 0) := (blk_cell BK56002.out 0).trans rfl
                  have hcz11_1 : w6.cell? ⟨gb56002, 1, none⟩ = some (.int .i64 0) := (blk_cell BK56002.out 1).trans rfl
                  have hcz11_2 : w6.cell? ⟨gb56002, 2, none⟩ = some (.int .i64 0) := (blk_cell BK56002.out 2).trans rfl
                  have hfz11_0 := blk_frozen BK56002.out 0
                  have hfz11_1 := blk_frozen BK56002.out 1
                  have hfz11_2 := blk_frozen BK56002.out 2
                  go_wp2
                  go_meet
                  case rel => exact ⟨_, (true), (by first | rfl | (simp; done) | (simp [*]; done)), H', ⟨by have := HK1.out; first | omega | exact Nat.le_refl _⟩, ⟨by (with_reducible repeat (first | refine blk_drewN ?_ _ | refine blk_drew ?_ | refine blk_alloc ?_ _)); refine blk_put (cs := #[.int .i64 ((rd_T57 l0 x8_1).f0), .int .i64 ((rd_T57 l0 x8_1).f1), .int .i64 0]) ?_ 2 _ rfl; (with_reducible repeat (first | refine blk_drewN ?_ _ | refine blk_drew ?_ | refine blk_alloc ?_ _)); refine blk_put (cs := #[.int .i64 ((rd_T57 l0 x8_1).f0), .int .i64 0, .int .i64 0]) ?_ 1 _ rfl; (with_reducible repeat (first | refine blk_drewN ?_ _ | refine blk_drew ?_ | refine blk_alloc ?_ _)); refine blk_put (cs := #[.int .i64 0, .int .i64 0, .int .i64 0]) ?_ 0 _ rfl; (with_reducible repeat (first | refine blk_drewN ?_ _ | refine blk_drew ?_ | refine blk_alloc ?_ _)); exact BK56002.out⟩, ⟨by repeat (first | (with_reducible first | exact HB.out | apply below_alloc | apply pw_below_drewN | apply below_drew1 | refine below_set ?_ GE56002.out) | exact HB.out)⟩⟩
                · rw [if_neg c10] at H
                  have c10b0 : decide (16 ≤ ((rd_T57 l0 x8_1).f0)) = false := decide_eq_false c10
                  clear c10
                  by_cases c12 : ((rd_T57 l0 x8_1).f1) < 0
                  · rw [if_pos c12] at H
                    have c12b0 : decide (((rd_T57 l0 x8_1).f1) < 0) = true := decide_eq_true c12
                    clear c12
                    have H' := Aside0.mk H
                    clear H
                    have hcz13_0 : w6.cell? ⟨gb56002, 0, none⟩ = some (.int .i64 0) := (blk_cell BK56002.out 0).trans rfl
                    have hcz13_1 : w6.cell? ⟨gb56002, 1, none⟩ = some (.int .i64 0) := (blk_cell BK56002.out 1).trans rfl
                    have hcz13_2 : w6.cell? ⟨gb56002, 2, none⟩ = some (.int .i64 0) := (blk_cell BK56002.out 2).trans rfl
                    have hfz13_0 := blk_frozen BK56002.out 0
                    have hfz13_1 := blk_frozen BK56002.out 1
                    have hfz13_2 := blk_frozen BK56002.out 2
                    go_wp2
                    go_meet
                    case rel => exact ⟨_, (true), (by first | rfl | (simp; done) | (simp [*]; done)), H', ⟨by have := HK1.out; first | omega | exact Nat.le_refl _⟩, ⟨by (with_reducible repeat (first | refine blk_drewN ?_ _ | refine blk_drew ?_ | refine blk_alloc ?_ _)); refine blk_put (cs := #[.int .i64 ((rd_T57 l0 x8_1).f0), .int .i64 ((rd_T57 l0 x8_1).f1), .int .i64 0]) ?_ 2 _ rfl; (with_reducible repeat (first | refine blk_drewN ?_ _ | refine blk_drew ?_ | refine blk_alloc ?_ _)); refine blk_put (cs := #[.int .i64 ((rd_T57 l0 x8_1).f0), .int .i64 0, .int .i64 0]) ?_ 1 _ rfl; (with_reducible repeat (first | refine blk_drewN ?_ _ | refine blk_drew ?_ | refine blk_alloc ?_ _)); refine blk_put (cs := #[.int .i64 0, .int .i64 0, .int .i64 0]) ?_ 0 _ rfl; (with_reducible repeat (first | refine blk_drewN ?_ _ | refine blk_drew ?_ | refine blk_alloc ?_ _)); exact BK56002.out⟩, ⟨by repeat (first | (with_reducible first | exact HB.out | apply below_alloc | apply pw_below_drewN | apply below_drew1 | refine below_set ?_ GE56002.out) | exact HB.out)⟩⟩
                  · rw [if_neg c12] at H
                    have c12b0 : decide (((rd_T57 l0 x8_1).f1) < 0) = false := decide_eq_false c12
                    clear c12
                    by_cases c14 : ((rd_T57 l0 x8_1).f2) ≤ ((rd_T57 l0 x8_1).f1)
                    · rw [if_pos c14] at H
                      have c14b0 : decide (((rd_T57 l0 x8_1).f2) ≤ ((rd_T57 l0 x8_1).f1)) = true := decide_eq_true c14
                      clear c14
                      have H' := Aside0.mk H
                      clear H
                      have hcz15_0 : w6.cell? ⟨gb56002, 0, none⟩ = some (.int .i64 0) := (blk_cell BK56002.out 0).trans rfl
                      have hcz15_1 : w6.cell? ⟨gb56002, 1, none⟩ = some (.int .i64 0) := (blk_cell BK56002.out 1).trans rfl
                      have hcz15_2 : w6.cell? ⟨gb56002, 2, none⟩ = some (.int .i64 0) := (blk_cell BK56002.out 2).trans rfl
                      have hfz15_0 := blk_frozen BK56002.out 0
                      have hfz15_1 := blk_frozen BK56002.out 1
                      have hfz15_2 := blk_frozen BK56002.out 2
                      go_wp2
                      go_meet
                      case rel => exact ⟨_, (true), (by first | rfl | (simp; done) | (simp [*]; done)), H', ⟨by have := HK1.out; first | omega | exact Nat.le_refl _⟩, ⟨by (with_reducible repeat (first | refine blk_drewN ?_ _ | refine blk_drew ?_ | refine blk_alloc ?_ _)); refine blk_put (cs := #[.int .i64 ((rd_T57 l0 x8_1).f0), .int .i64 ((rd_T57 l0 x8_1).f1), .int .i64 0]) ?_ 2 _ rfl; (with_reducible repeat (first | refine blk_drewN ?_ _ | refine blk_drew ?_ | refine blk_alloc ?_ _)); refine blk_put (cs := #[.int .i64 ((rd_T57 l0 x8_1).f0), .int .i64 0, .int .i64 0]) ?_ 1 _ rfl; (with_reducible repeat (first | refine blk_drewN ?_ _ | refine blk_drew ?_ | refine blk_alloc ?_ _)); refine blk_put (cs := #[.int .i64 0, .int .i64 0, .int .i64 0]) ?_ 0 _ rfl; (with_reducible repeat (first | refine blk_drewN ?_ _ | refine blk_drew ?_ | refine blk_alloc ?_ _)); exact BK56002.out⟩, ⟨by repeat (first | (with_reducible first | exact HB.out | apply below_alloc | apply pw_below_drewN | apply below_drew1 | refine below_set ?_ GE56002.out) | exact HB.out)⟩⟩
                    · rw [if_neg c14] at H
                      have c14b0 : decide (((rd_T57 l0 x8_1).f2) ≤ ((rd_T57 l0 x8_1).f1)) = false := decide_eq_false c14
                      clear c14
                      have H' := Aside0.mk H
                      clear H
                      have hcz16_0 : w6.cell? ⟨gb56002, 0, none⟩ = some (.int .i64 0) := (blk_cell BK56002.out 0).trans rfl
                      have hcz16_1 : w6.cell? ⟨gb56002, 1, none⟩ = some (.int .i64 0) := (blk_cell BK56002.out 1).trans rfl
                      have hcz16_2 : w6.cell? ⟨gb56002, 2, none⟩ = some (.int .i64 0) := (blk_cell BK56002.out 2).trans rfl
                      have hfz16_0 := blk_frozen BK56002.out 0
                      have hfz16_1 := blk_frozen BK56002.out 1
                      have hfz16_2 := blk_frozen BK56002.out 2
                      go_wp2
                      go_meet
                      case rel => exact ⟨_, (decide (((rd_T57 l0 x8_1).f2) > 16)), (by first | rfl | (simp; done) | (simp [*]; done)), H', ⟨by have := HK1.out; first | omega | exact Nat.le_refl _⟩, ⟨by (with_reducible repeat (first | refine blk_drewN ?_ _ | refine blk_drew ?_ | refine blk_alloc ?_ _)); refine blk_put (cs := #[.int .i64 ((rd_T57 l0 x8_1).f0), .int .i64 ((rd_T57 l0 x8_1).f1), .int .i64 0]) ?_ 2 _ rfl; (with_reducible repeat (first | refine blk_drewN ?_ _ | refine blk_drew ?_ | refine blk_alloc ?_ _)); refine blk_put (cs := #[.int .i64 ((rd_T57 l0 x8_1).f0), .int .i64 0, .int .i64 0]) ?_ 1 _ rfl; (with_reducible repeat (first | refine blk_drewN ?_ _ | refine blk_drew ?_ | refine blk_alloc ?_ _)); refine blk_put (cs := #[.int .i64 0, .int .i64 0, .int .i64 0]) ?_ 0 _ rfl; (with_reducible repeat (first | refine blk_drewN ?_ _ | refine blk_drew ?_ | refine blk_alloc ?_ _)); exact BK56002.out⟩, ⟨by repeat (first | (with_reducible first | exact HB.out | apply below_alloc | apply pw_below_drewN | apply below_drew1 | refine below_set ?_ GE56002.out) | exact HB.out)⟩⟩
            case rest =>
              clear HC5
              try clear c1
              try clear c2
              try clear c2b0
              try clear p2
              try clear c3
              try clear c3b0
              try clear c4
              try clear c4b0
              try clear c5
              try clear p5
              try clear q5
              try clear hx5
              try clear c8
              try clear c8b0
              try clear c10
              try clear c10b0
              try clear c12
              try clear c12b0
              try clear c14
              try clear c14b0
              try clear hcz11_0
              try clear hcz11_1
              try clear hcz11_2
              try clear hcz13_0
              try clear hcz13_1
              try clear hcz13_2
              try clear hcz15_0
              try clear hcz15_1
              try clear hcz15_2
              try clear hcz16_0
              try clear hcz16_1
              try clear hcz16_2
              try clear hcz7_0
              try clear hcz7_1
              try clear hcz7_2
              try clear hcz9_0
              try clear hcz9_1
              try clear hcz9_2
              try clear hfz11_0
              try clear hfz11_1
              try clear hfz11_2
              try clear hfz13_0
              try clear hfz13_1
              try clear hfz13_2
              try clear hfz15_0
              try clear hfz15_1
              try clear hfz15_2
              try clear hfz16_0
              try clear hfz16_1
              try clear hfz16_2
              try clear hfz7_0
              try clear hfz7_1
              try clear hfz7_2
              try clear hfz9_0
              try clear hfz9_1
              try clear hfz9_2
              try clear hx56001_0
              try clear hx56001_1
              try clear hx56001_2
              try clear p56001
              try clear q56001
              obtain ⟨kq, x37_4, rfl, HA, HJ4, BK56002, HB⟩ := hcut
              cases kq with
              | zero => exact absurd HA.out (by simp [impl_isRegion.j1])
              | succ kj4 =>
                have H := HA.out
                clear HA
                simp only [impl_isRegion.j1] at H
                by_cases c17 : x37_4 = true
                · subst c17
                  have H1 : (some false) = some r := by rw [if_pos rfl] at H; exact H
                  clear H
                  have H := H1
                  clear H1
                  obtain rfl := Option.some.inj H
                  go_wp2
                  go_ret
                  exact ⟨by first | rfl | (simp [errW_none, errW_some] <;> rfl) | (simp [*, errW_none, errW_some] <;> rfl), by repeat (first | (with_reducible first | exact HB.out | apply below_alloc | apply pw_below_drewN | apply below_drew1 | refine below_set ?_ GE56002.out) | exact HB.out)⟩
                · replace c17 := Bool.eq_false_iff.mpr c17
                  subst c17
                  have H1 : (if x8_1 = 0 then (impl_isRegion.l0 kj4 l0 l0 (l0.length : Int) (wrap64 (x8_1 + 1))) else (if 0 ≤ (wrap64 (x8_1 - 1)) then (if (wrap64 (x8_1 - 1)) < (l0.length : Int) then (if ((rd_T57 l0 x8_1).f0) < ((rd_T57 l0 (wrap64 (x8_1 - 1))).f0) then (some false) else (if ((rd_T57 l0 x8_1).f0) = ((rd_T57 l0 (wrap64 (x8_1 - 1))).f0) then (if ((rd_T57 l0 x8_1).f1) ≤ ((rd_T57 l0 (wrap64 (x8_1 - 1))).f2) then (some false) else (impl_isRegion.l0 kj4 l0 l0 (l0.length : Int) (wrap64 (x8_1 + 1)))) else (impl_isRegion.l0 kj4 l0 l0 (l0.length : Int) (wrap64 (x8_1 + 1))))) else (none)) else (none))) = some r := by rw [if_neg (show ¬ (false = true) by decide)] at H; exact H
                  clear H
                  have H := H1
                  clear H1
                  by_cases c18 : x8_1 = 0
                  · rw [if_pos c18] at H
                    have c18b0 : (x8_1 == 0) = true := beq_iff_eq.mpr c18
                    have c18b1 : (x8_1 != 0) = false := bne_eq_false_iff_eq.mpr c18
                    clear c18
                    have H' := Aside0.mk H
                    clear H
                    go_wp2
                    go_roundg kj4
                    case measure => have := HK1.out; have := HJ4.out; omega
                    case rel => exact ⟨(wrap64 (x8_1 + 1)), (by first | rfl | (simp; done) | (simp [*]; done)), H', ⟨by have := HK1.out; have := HJ4.out; omega⟩, ⟨by repeat (first | (with_reducible first | exact HB.out | apply below_alloc | apply pw_below_drewN | apply below_drew1 | refine below_set ?_ GE56002.out) | exact HB.out)⟩⟩
                  · rw [if_neg c18] at H
                    have c18b0 : (x8_1 == 0) = false := beq_eq_false_iff_ne.mpr c18
                    have c18b1 : (x8_1 != 0) = true := bne_iff_ne.mpr c18
                    obtain ⟨ji19, hji19⟩ : ∃ j_ : Int, (wrap64 (x8_1 - 1)) = j_ := ⟨_, rfl⟩
                    replace H : (if 0 ≤ (ji19) then (if (ji19) < (l0.length : Int) then (if ((rd_T57 l0 x8_1).f0) < ((rd_T57 l0 (ji19)).f0) then (some false) else (if ((rd_T57 l0 x8_1).f0) = ((rd_T57 l0 (ji19)).f0) then (if ((rd_T57 l0 x8_1).f1) ≤ ((rd_T57 l0 (ji19)).f2) then (some false) else (impl_isRegion.l0 kj4 l0 l0 (l0.length : Int) (wrap64 (x8_1 + 1)))) else (impl_isRegion.l0 kj4 l0 l0 (l0.length : Int) (wrap64 (x8_1 + 1))))) else (none)) else (none)) = some r := by first | (rw [hji19] at H; exact H) | (simp only [hji19] at H ⊢; exact H)
                    have hji19w : (IntKind.i64.wrap (x8_1 - 1)) = ji19 := (i64_w _).trans hji19
                    by_cases c20 : 0 ≤ (ji19)
                    · rw [if_pos c20] at H
                      have c20b0 : decide (0 ≤ (ji19)) = true := decide_eq_true c20
                      clear c20
                      by_cases c21 : (ji19) < (l0.length : Int)
                      · rw [if_pos c21] at H
                        have c21b0 : decide ((ji19) < (l0.length : Int)) = true := decide_eq_true c21
                        clear c21
                        by_cases c22 : ((rd_T57 l0 x8_1).f0) < ((rd_T57 l0 (ji19)).f0)
                        · rw [if_pos c22] at H
                          have c22b0 : decide (((rd_T57 l0 x8_1).f0) < ((rd_T57 l0 (ji19)).f0)) = true := decide_eq_true c22
                          clear c22
                          obtain rfl := Option.some.inj H
                          have p56003 : 0 ≤ ((ji19) : Int) := of_decide_eq_true (by first | (with_reducible assumption) | assumption)
                          have q56003 : (ji19) < (l0.length : Int) := of_decide_eq_true (by first | (with_reducible assumption) | assumption)
                          obtain ⟨ad56003, e56003, hx56003_0, hx56003_1, hx56003_2⟩ := at_T57 HR0.out (ji19) p56003 q56003
                          obtain rfl : ad56001 = ad56003 := (by injection e56003)
                          replace hx56003_0 := (HB.out.cell (World.block_lt_of_cell? w _ hx56003_0)).trans hx56003_0
                          replace hx56003_1 := (HB.out.cell (World.block_lt_of_cell? w _ hx56003_1)).trans hx56003_1
                          replace hx56003_2 := (HB.out.cell (World.block_lt_of_cell? w _ hx56003_2)).trans hx56003_2
                          replace p56003 := eq_true p56003
                          replace q56003 := eq_true q56003
                          go_wp2_with (first | ((with_reducible refine gate_dst (N := 5) rfl ?_); refine box_event ?hg (N := 5) ?hd (cs := #[.int .i64 0, .int .i64 0, .int .i64 0]) (t := 57) ?hr ?_; (case hd => rfl); (case hg => rfl); (case hr => first | (go_simp; done) | (go_simp; rfl)); intro gb56004 hg w23 hbox hb; have n0_ := Aside0.mk (blk_below (g := gb56002) (o := .cells #[.int .i64 ((rd_T57 l0 x8_1).f0), .int .i64 ((rd_T57 l0 x8_1).f1), .int .i64 ((rd_T57 l0 x8_1).f2)] 57 (0, 0)) (by (with_reducible repeat (first | refine blk_drewN ?_ _ | refine blk_drew ?_ | refine blk_alloc ?_ _)); exact BK56002.out) hb); have n1_ := Aside0.mk (below_step (by repeat (first | (with_reducible first | exact HB.out | apply below_alloc | apply pw_below_drewN | apply below_drew1 | refine below_set ?_ GE56002.out) | exact HB.out)) hb); have n2_ := Aside0.mk (hbox); have n3_ := Aside0.mk ((by rw [hg]; exact (below_size (by repeat (first | (with_reducible first | exact HB.out | apply below_alloc | apply pw_below_drewN | apply below_drew1 | refine below_set ?_ GE56002.out) | exact HB.out))) : w.heap.size ≤ gb56004)); have n4_ := Aside0.mk ((by rw [hg]; exact (below_size (by repeat (first | (with_reducible first | exact HB.out | apply below_alloc | apply pw_below_drewN | apply below_drew1 | refine below_set ?_ GE56002.out) | exact HB.out))) : w.heap.size ≤ gb56004)); have n5_ := Aside0.mk ((by rw [hg]; exact Nat.ne_of_lt (blk_lt (g := gb56002) (o := .cells #[.int .i64 ((rd_T57 l0 x8_1).f0), .int .i64 ((rd_T57 l0 x8_1).f1), .int .i64 ((rd_T57 l0 x8_1).f2)] 57 (0, 0)) (by (with_reducible repeat (first | refine blk_drewN ?_ _ | refine blk_drew ?_ | refine blk_alloc ?_ _)); exact BK56002.out)) : gb56002 ≠ gb56004)); have n6_ := Aside0.mk ((by rw [hg]; exact Nat.ne_of_gt (blk_lt (g := gb56002) (o := .cells #[.int .i64 ((rd_T57 l0 x8_1).f0), .int .i64 ((rd_T57 l0 x8_1).f1), .int .i64 ((rd_T57 l0 x8_1).f2)] 57 (0, 0)) (by (with_reducible repeat (first | refine blk_drewN ?_ _ | refine blk_drew ?_ | refine blk_alloc ?_ _)); exact BK56002.out)) : gb56004 ≠ gb56002)); clear BK56002; clear HB; have BK56002 := n0_; have HB := n1_; have BK56004 := n2_; have GW56004 := n3_; have GE56004 := n4_; have NB56002_56004 := n5_; have NB56004_56002 := n6_; clear n0_ n1_ n2_ n3_ n4_ n5_ n6_; clear hb hbox hg; have hnb24 := NB56004_56002.out; have hnc24 := NB56002_56004.out; have hcz25_0 : w23.cell? ⟨gb56004, 0, none⟩ = some (.int .i64 0) := (blk_cell BK56004.out 0).trans rfl; have hcz25_1 : w23.cell? ⟨gb56004, 1, none⟩ = some (.int .i64 0) := (blk_cell BK56004.out 1).trans rfl; have hcz25_2 : w23.cell? ⟨gb56004, 2, none⟩ = some (.int .i64 0) := (blk_cell BK56004.out 2).trans rfl; have hfz25_0 := blk_frozen BK56004.out 0; have hfz25_1 := blk_frozen BK56004.out 1; have hfz25_2 := blk_frozen BK56004.out 2; have hcz26_0 : w23.cell? ⟨gb56002, 0, none⟩ = some (.int .i64 ((rd_T57 l0 x8_1).f0)) := (blk_cell BK56002.out 0).trans rfl; have hcz26_1 : w23.cell? ⟨gb56002, 1, none⟩ = some (.int .i64 ((rd_T57 l0 x8_1).f1)) := (blk_cell BK56002.out 1).trans rfl; have hcz26_2 : w23.cell? ⟨gb56002, 2, none⟩ = some (.int .i64 ((rd_T57 l0 x8_1).f2)) := (blk_cell BK56002.out 2).trans rfl; have hfz26_0 := blk_frozen BK56002.out 0; have hfz26_1 := blk_frozen BK56002.out 1; have hfz26_2 := blk_frozen BK56002.out 2))
                          go_ret
                          exact ⟨by first | rfl | (simp [errW_none, errW_some] <;> rfl) | (simp only [← hji19]; first | rfl | (simp [errW_none, errW_some] <;> rfl)) | (simp [*, errW_none, errW_some] <;> rfl), by repeat (first | (with_reducible first | exact HB.out | apply below_alloc | apply pw_below_drewN | apply below_drew1 | refine below_set ?_ GE56002.out | refine below_set ?_ GE56004.out) | exact HB.out)⟩
                        · rw [if_neg c22] at H
                          have c22b0 : decide (((rd_T57 l0 x8_1).f0) < ((rd_T57 l0 (ji19)).f0)) = false := decide_eq_false c22
                          clear c22
                          by_cases c27 : ((rd_T57 l0 x8_1).f0) = ((rd_T57 l0 (ji19)).f0)
                          · rw [if_pos c27] at H
                            have c27b0 : (((rd_T57 l0 x8_1).f0) == ((rd_T57 l0 (ji19)).f0)) = true := beq_iff_eq.mpr c27
                            have c27b1 : (((rd_T57 l0 x8_1).f0) != ((rd_T57 l0 (ji19)).f0)) = false := bne_eq_false_iff_eq.mpr c27
                            clear c27
                            by_cases c28 : ((rd_T57 l0 x8_1).f1) ≤ ((rd_T57 l0 (ji19)).f2)
                            · rw [if_pos c28] at H
                              have c28b0 : decide (((rd_T57 l0 x8_1).f1) ≤ ((rd_T57 l0 (ji19)).f2)) = true := decide_eq_true c28
                              clear c28
                              obtain rfl := Option.some.inj H
                              have p56003 : 0 ≤ ((ji19) : Int) := of_decide_eq_true (by first | (with_reducible assumption) | assumption)
                              have q56003 : (ji19) < (l0.length : Int) := of_decide_eq_true (by first | (with_reducible assumption) | assumption)
                              obtain ⟨ad56003, e56003, hx56003_0, hx56003_1, hx56003_2⟩ := at_T57 HR0.out (ji19) p56003 q56003
                              obtain rfl : ad56001 = ad56003 := (by injection e56003)
                              replace hx56003_0 := (HB.out.cell (World.block_lt_of_cell? w _ hx56003_0)).trans hx56003_0
                              replace hx56003_1 := (HB.out.cell (World.block_lt_of_cell? w _ hx56003_1)).trans hx56003_1
                              replace hx56003_2 := (HB.out.cell (World.block_lt_of_cell? w _ hx56003_2)).trans hx56003_2
                              replace p56003 := eq_true p56003
                              replace q56003 := eq_true q56003
                              go_wp2_with (first | ((with_reducible refine gate_dst (N := 5) rfl ?_); refine box_event ?hg (N := 5) ?hd (cs := #[.int .i64 0, .int .i64 0, .int .i64 0]) (t := 57) ?hr ?_; (case hd => rfl); (case hg => rfl); (case hr => first | (go_simp; done) | (go_simp; rfl)); intro gb56004 hg w29 hbox hb; have n0_ := Aside0.mk (blk_below (g := gb56002) (o := .cells #[.int .i64 ((rd_T57 l0 x8_1).f0), .int .i64 ((rd_T57 l0 x8_1).f1), .int .i64 ((rd_T57 l0 x8_1).f2)] 57 (0, 0)) (by (with_reducible repeat (first | refine blk_drewN ?_ _ | refine blk_drew ?_ | refine blk_alloc ?_ _)); exact BK56002.out) hb); have n1_ := Aside0.mk (below_step (by repeat (first | (with_reducible first | exact HB.out | apply below_alloc | apply pw_below_drewN | apply below_drew1 | refine below_set ?_ GE56002.out) | exact HB.out)) hb); have n2_ := Aside0.mk (hbox); have n3_ := Aside0.mk ((by rw [hg]; exact (below_size (by repeat (first | (with_reducible first | exact HB.out | apply below_alloc | apply pw_below_drewN | apply below_drew1 | refine below_set ?_ GE56002.out) | exact HB.out))) : w.heap.size ≤ gb56004)); have n4_ := Aside0.mk ((by rw [hg]; exact (below_size (by repeat (first | (with_reducible first | exact HB.out | apply below_alloc | apply pw_below_drewN | apply below_drew1 | refine below_set ?_ GE56002.out) | exact HB.out))) : w.heap.size ≤ gb56004)); have n5_ := Aside0.mk ((by rw [hg]; exact Nat.ne_of_lt (blk_lt (g := gb56002) (o := .cells #[.int .i64 ((rd_T57 l0 x8_1).f0), .int .i64 ((rd_T57 l0 x8_1).f1), .int .i64 ((rd_T57 l0 x8_1).f2)] 57 (0, 0)) (by (with_reducible repeat (first | refine blk_drewN ?_ _ | refine blk_drew ?_ | refine blk_alloc ?_ _)); exact BK56002.out)) : gb56002 ≠ gb56004)); have n6_ := Aside0.mk ((by rw [hg]; exact Nat.ne_of_gt (blk_lt (g := gb56002) (o := .cells #[.int .i64 ((rd_T57 l0 x8_1).f0), .int .i64 ((rd_T57 l0 x8_1).f1), .int .i64 ((rd_T57 l0 x8_1).f2)] 57 (0, 0)) (by (with_reducible repeat (first | refine blk_drewN ?_ _ | refine blk_drew ?_ | refine blk_alloc ?_ _)); exact BK56002.out)) : gb56004 ≠ gb56002)); clear BK56002; clear HB; have BK56002 := n0_; have HB := n1_; have BK56004 := n2_; have GW56004 := n3_; have GE56004 := n4_; have NB56002_56004 := n5_; have NB56004_56002 := n6_; clear n0_ n1_ n2_ n3_ n4_ n5_ n6_; clear hb hbox hg; have hnb30 := NB56004_56002.out; have hnc30 := NB56002_56004.out; have hcz31_0 : w29.cell? ⟨gb56004, 0, none⟩ = some (.int .i64 0) := (blk_cell BK56004.out 0).trans rfl; have hcz31_1 : w29.cell? ⟨gb56004, 1, none⟩ = some (.int .i64 0) := (blk_cell BK56004.out 1).trans rfl; have hcz31_2 : w29.cell? ⟨gb56004, 2, none⟩ = some (.int .i64 0) := (blk_cell BK56004.out 2).trans rfl; have hfz31_0 := blk_frozen BK56004.out 0; have hfz31_1 := blk_frozen BK56004.out 1; have hfz31_2 := blk_frozen BK56004.out 2; have hcz32_0 : w29.cell? ⟨gb56002, 0, none⟩ = some (.int .i64 ((rd_T57 l0 x8_1).f0)) := (blk_cell BK56002.out 0).trans rfl; have hcz32_1 : w29.cell? ⟨gb56002, 1, none⟩ = some (.int .i64 ((rd_T57 l0 x8_1).f1)) := (blk_cell BK56002.out 1).trans rfl; have hcz32_2 : w29.cell? ⟨gb56002, 2, none⟩ = some (.int .i64 ((rd_T57 l0 x8_1).f2)) := (blk_cell BK56002.out 2).trans rfl; have hfz32_0 := blk_frozen BK56002.out 0; have hfz32_1 := blk_frozen BK56002.out 1; have hfz32_2 := blk_frozen BK56002.out 2))
                              go_ret
                              exact ⟨by first | rfl | (simp [errW_none, errW_some] <;> rfl) | (simp only [← hji19]; first | rfl | (simp [errW_none, errW_some] <;> rfl)) | (simp [*, errW_none, errW_some] <;> rfl), by repeat (first | (with_reducible first | exact HB.out | apply below_alloc | apply pw_below_drewN | apply below_drew1 | refine below_set ?_ GE56002.out | refine below_set ?_ GE56004.out) | exact HB.out)⟩
                            · rw [if_neg c28] at H
                              have c28b0 : decide (((rd_T57 l0 x8_1).f1) ≤ ((rd_T57 l0 (ji19)).f2)) = false := decide_eq_false c28
                              clear c28
                              have H' := Aside0.mk H
                              clear H
                              have p56003 : 0 ≤ ((ji19) : Int) := of_decide_eq_true (by first | (with_reducible assumption) | assumption)
                              have q56003 : (ji19) < (l0.length : Int) := of_decide_eq_true (by first | (with_reducible assumption) | assumption)
                              obtain ⟨ad56003, e56003, hx56003_0, hx56003_1, hx56003_2⟩ := at_T57 HR0.out (ji19) p56003 q56003
                              obtain rfl : ad56001 = ad56003 := (by injection e56003)
                              replace hx56003_0 := (HB.out.cell (World.block_lt_of_cell? w _ hx56003_0)).trans hx56003_0
                              replace hx56003_1 := (HB.out.cell (World.block_lt_of_cell? w _ hx56003_1)).trans hx56003_1
                              replace hx56003_2 := (HB.out.cell (World.block_lt_of_cell? w _ hx56003_2)).trans hx56003_2
                              replace p56003 := eq_true p56003
                              replace q56003 := eq_true q56003
                              go_wp2_with (first | ((with_reducible refine gate_dst (N := 5) rfl ?_); refine box_event ?hg (N := 5) ?hd (cs := #[.int .i64 0, .int .i64 0, .int .i64 0]) (t := 57) ?hr ?_; (case hd => rfl); (case hg => rfl); (case hr => first | (go_simp; done) | (go_simp; rfl)); intro gb56004 hg w33 hbox hb; have n0_ := Aside0.mk (blk_below (g := gb56002) (o := .cells #[.int .i64 ((rd_T57 l0 x8_1).f0), .int .i64 ((rd_T57 l0 x8_1).f1), .int .i64 ((rd_T57 l0 x8_1).f2)] 57 (0, 0)) (by (with_reducible repeat (first | refine blk_drewN ?_ _ | refine blk_drew ?_ | refine blk_alloc ?_ _)); exact BK56002.out) hb); have n1_ := Aside0.mk (below_step (by repeat (first | (with_reducible first | exact HB.out | apply below_alloc | apply pw_below_drewN | apply below_drew1 | refine below_set ?_ GE56002.out) | exact HB.out)) hb); have n2_ := Aside0.mk (hbox); have n3_ := Aside0.mk ((by rw [hg]; exact (below_size (by repeat (first | (with_reducible first | exact HB.out | apply below_alloc | apply pw_below_drewN | apply below_drew1 | refine below_set ?_ GE56002.out) | exact HB.out))) : w.heap.size ≤ gb56004)); have n4_ := Aside0.mk ((by rw [hg]; exact (below_size (by repeat (first | (with_reducible first | exact HB.out | apply below_alloc | apply pw_below_drewN | apply below_drew1 | refine below_set ?_ GE56002.out) | exact HB.out))) : w.heap.size ≤ gb56004)); have n5_ := Aside0.mk ((by rw [hg]; exact Nat.ne_of_lt (blk_lt (g := gb56002) (o := .cells #[.int .i64 ((rd_T57 l0 x8_1).f0), .int .i64 ((rd_T57 l0 x8_1).f1), .int .i64 ((rd_T57 l0 x8_1).f2)] 57 (0, 0)) (by (with_reducible repeat (first | refine blk_drewN ?_ _ | refine blk_drew ?_ | refine blk_alloc ?_ _)); exact BK56002.out)) : gb56002 ≠ gb56004)); have n6_ := Aside0.mk ((by rw [hg]; exact Nat.ne_of_gt (blk_lt (g := gb56002) (o := .cells #[.int .i64 ((rd_T57 l0 x8_1).f0), .int .i64 ((rd_T57 l0 x8_1).f1), .int .i64 ((rd_T57 l0 x8_1).f2)] 57 (0, 0)) (by (with_reducible repeat (first | refine blk_drewN ?_ _ | refine blk_drew ?_ | refine blk_alloc ?_ _)); exact BK56002.out)) : gb56004 ≠ gb56002)); clear BK56002; clear HB; have BK56002 := n0_; have HB := n1_; have BK56004 := n2_; have GW56004 := n3_; have GE56004 := n4_; have NB56002_56004 := n5_; have NB56004_56002 := n6_; clear n0_ n1_ n2_ n3_ n4_ n5_ n6_; clear hb hbox hg; have hnb34 := NB56004_56002.out; have hnc34 := NB56002_56004.out; have hcz35_0 : w33.cell? ⟨gb56004, 0, none⟩ = some (.int .i64 0) := (blk_cell BK56004.out 0).trans rfl; have hcz35_1 : w33.cell? ⟨gb56004, 1, none⟩ = some (.int .i64 0) := (blk_cell BK56004.out 1).trans rfl; have hcz35_2 : w33.cell? ⟨gb56004, 2, none⟩ = some (.int .i64 0) := (blk_cell BK56004.out 2).trans rfl; have hfz35_0 := blk_frozen BK56004.out 0; have hfz35_1 := blk_frozen BK56004.out 1; have hfz35_2 := blk_frozen BK56004.out 2; have hcz36_0 : w33.cell? ⟨gb56002, 0, none⟩ = some (.int .i64 ((rd_T57 l0 x8_1).f0)) := (blk_cell BK56002.out 0).trans rfl; have hcz36_1 : w33.cell? ⟨gb56002, 1, none⟩ = some (.int .i64 ((rd_T57 l0 x8_1).f1)) := (blk_cell BK56002.out 1).trans rfl; have hcz36_2 : w33.cell? ⟨gb56002, 2, none⟩ = some (.int .i64 ((rd_T57 l0 x8_1).f2)) := (blk_cell BK56002.out 2).trans rfl; have hfz36_0 := blk_frozen BK56002.out 0; have hfz36_1 := blk_frozen BK56002.out 1; have hfz36_2 := blk_frozen BK56002.out 2))
                              go_roundg kj4
                              case measure => have := HK1.out; have := HJ4.out; omega
                              case rel => exact ⟨(wrap64 (x8_1 + 1)), (by first | rfl | (simp; done) | (simp [*]; done)), H', ⟨by have := HK1.out; have := HJ4.out; omega⟩, ⟨by repeat (first | (with_reducible first | exact HB.out | apply below_alloc | apply pw_below_drewN | apply below_drew1 | refine below_set ?_ GE56002.out | refine below_set ?_ GE56004.out) | exact HB.out)⟩⟩
                          · rw [if_neg c27] at H
                            have c27b0 : (((rd_T57 l0 x8_1).f0) == ((rd_T57 l0 (ji19)).f0)) = false := beq_eq_false_iff_ne.mpr c27
                            have c27b1 : (((rd_T57 l0 x8_1).f0) != ((rd_T57 l0 (ji19)).f0)) = true := bne_iff_ne.mpr c27
                            have H' := Aside0.mk H
                            clear H
                            have p56003 : 0 ≤ ((ji19) : Int) := of_decide_eq_true (by first | (with_reducible assumption) | assumption)
                            have q56003 : (ji19) < (l0.length : Int) := of_decide_eq_true (by first | (with_reducible assumption) | assumption)
                            obtain ⟨ad56003, e56003, hx56003_0, hx56003_1, hx56003_2⟩ := at_T57 HR0.out (ji19) p56003 q56003
                            obtain rfl : ad56001 = ad56003 := (by injection e56003)
                            replace hx56003_0 := (HB.out.cell (World.block_lt_of_cell? w _ hx56003_0)).trans hx56003_0
                            replace hx56003_1 := (HB.out.cell (World.block_lt_of_cell? w _ hx56003_1)).trans hx56003_1
                            replace hx56003_2 := (HB.out.cell (World.block_lt_of_cell? w _ hx56003_2)).trans hx56003_2
                            replace p56003 := eq_true p56003
                            replace q56003 := eq_true q56003
                            go_wp2_with (first | ((with_reducible refine gate_dst (N := 5) rfl ?_); refine box_event ?hg (N := 5) ?hd (cs := #[.int .i64 0, .int .i64 0, .int .i64 0]) (t := 57) ?hr ?_; (case hd => rfl); (case hg => rfl); (case hr => first | (go_simp; done) | (go_simp; rfl)); intro gb56004 hg w37 hbox hb; have n0_ := Aside0.mk (blk_below (g := gb56002) (o := .cells #[.int .i64 ((rd_T57 l0 x8_1).f0), .int .i64 ((rd_T57 l0 x8_1).f1), .int .i64 ((rd_T57 l0 x8_1).f2)] 57 (0, 0)) (by (with_reducible repeat (first | refine blk_drewN ?_ _ | refine blk_drew ?_ | refine blk_alloc ?_ _)); exact BK56002.out) hb); have n1_ := Aside0.mk (below_step (by repeat (first | (with_reducible first | exact HB.out | apply below_alloc | apply pw_below_drewN | apply below_drew1 | refine below_set ?_ GE56002.out) | exact HB.out)) hb); have n2_ := Aside0.mk (hbox); have n3_ := Aside0.mk ((by rw [hg]; exact (below_size (by repeat (first | (with_reducible first | exact HB.out | apply below_alloc | apply pw_below_drewN | apply below_drew1 | refine below_set ?_ GE56002.out) | exact HB.out))) : w.heap.size ≤ gb56004)); have n4_ := Aside0.mk ((by rw [hg]; exact (below_size (by repeat (first | (with_reducible first | exact HB.out | apply below_alloc | apply pw_below_drewN | apply below_drew1 | refine below_set ?_ GE56002.out) | exact HB.out))) : w.heap.size ≤ gb56004)); have n5_ := Aside0.mk ((by rw [hg]; exact Nat.ne_of_lt (blk_lt (g := gb56002) (o := .cells #[.int .i64 ((rd_T57 l0 x8_1).f0), .int .i64 ((rd_T57 l0 x8_1).f1), .int .i64 ((rd_T57 l0 x8_1).f2)] 57 (0, 0)) (by (with_reducible repeat (first | refine blk_drewN ?_ _ | refine blk_drew ?_ | refine blk_alloc ?_ _)); exact BK56002.out)) : gb56002 ≠ gb56004)); have n6_ := Aside0.mk ((by rw [hg]; exact Nat.ne_of_gt (blk_lt (g := gb56002) (o := .cells #[.int .i64 ((rd_T57 l0 x8_1).f0), .int .i64 ((rd_T57 l0 x8_1).f1), .int .i64 ((rd_T57 l0 x8_1).f2)] 57 (0, 0)) (by (with_reducible repeat (first | refine blk_drewN ?_ _ | refine blk_drew ?_ | refine blk_alloc ?_ _)); exact BK56002.out)) : gb56004 ≠ gb56002)); clear BK56002; clear HB; have BK56002 := n0_; have HB := n1_; have BK56004 := n2_; have GW56004 := n3_; have GE56004 := n4_; have NB56002_56004 := n5_; have NB56004_56002 := n6_; clear n0_ n1_ n2_ n3_ n4_ n5_ n6_; clear hb hbox hg; have hnb38 := NB56004_56002.out; have hnc38 := NB56002_56004.out; have hcz39_0 : w37.cell? ⟨gb56004, 0, none⟩ = some (.int .i64 0) := (blk_cell BK56004.out 0).trans rfl; have hcz39_1 : w37.cell? ⟨gb56004, 1, none⟩ = some (.int .i64 0) := (blk_cell BK56004.out 1).trans rfl; have hcz39_2 : w37.cell? ⟨gb56004, 2, none⟩ = some (.int .i64 0) := (blk_cell BK56004.out 2).trans rfl; have hfz39_0 := blk_frozen BK56004.out 0; have hfz39_1 := blk_frozen BK56004.out 1; have hfz39_2 := blk_frozen BK56004.out 2; have hcz40_0 : w37.cell? ⟨gb56002, 0, none⟩ = some (.int .i64 ((rd_T57 l0 x8_1).f0)) := (blk_cell BK56002.out 0).trans rfl; have hcz40_1 : w37.cell? ⟨gb56002, 1, none⟩ = some (.int .i64 ((rd_T57 l0 x8_1).f1)) := (blk_cell BK56002.out 1).trans rfl; have hcz40_2 : w37.cell? ⟨gb56002, 2, none⟩ = some (.int .i64 ((rd_T57 l0 x8_1).f2)) := (blk_cell BK56002.out 2).trans rfl; have hfz40_0 := blk_frozen BK56002.out 0; have hfz40_1 := blk_frozen BK56002.out 1; have hfz40_2 := blk_frozen BK56002.out 2))
                            go_roundg kj4
                            case measure => have := HK1.out; have := HJ4.out; omega
                            case rel => exact ⟨(wrap64 (x8_1 + 1)), (by first | rfl | (simp; done) | (simp [*]; done)), H', ⟨by have := HK1.out; have := HJ4.out; omega⟩, ⟨by repeat (first | (with_reducible first | exact HB.out | apply below_alloc | apply pw_below_drewN | apply below_drew1 | refine below_set ?_ GE56002.out | refine below_set ?_ GE56004.out) | exact HB.out)⟩⟩
                      · rw [if_neg c21] at H
                        exact absurd H (by simp)
                    · rw [if_neg c20] at H
                      exact absurd H (by simp)
          · rw [if_neg c4] at H
            exact absurd H (by simp)
        · rw [if_neg c3] at H
          exact absurd H (by simp)
      · rw [if_neg c2] at H
        have c2b0 : decide (x8_1 < (l0.length : Int)) = false := decide_eq_false c2
        clear c2
        obtain rfl := Option.some.inj H
        go_wp2
        go_ret
        exact ⟨by first | rfl | (simp [errW_none, errW_some] <;> rfl) | (simp [*, errW_none, errW_some] <;> rfl), by repeat (first | (with_reducible first | exact HB.out | apply below_alloc | apply pw_below_drewN | apply below_drew1) | exact HB.out)⟩

end Go.Proofs.Ytfgeickfheogoaa.Q

/- Runs: what the program and the reference take for a region. -/
namespace Go.Proofs.Ytfgeickfheogoaa.Pure
open Go.RowKit Go.Proofs.Ytfgeickfheogoaa.Q Go.Proofs.YtfgeickfheogoaaW.PrintWords Go.Proofs.YtfgeickfheogoaaW.PrintLast Go.Proofs.YtfgeickfheogoaaW.PrintMore
set_option linter.unusedVariables false
set_option linter.unusedSimpArgs false

abbrev Run := S57
theorem rdRun (l : List Run) (i : Nat) (h : i < l.length) : rd_T57 l (i : Int) = l[i] := by simp [rd_T57, h]
def runOK (r : Run) : Bool := decide (0 ≤ r.f0) && decide (r.f0 < 16) && decide (0 ≤ r.f1) && decide (r.f1 < r.f2) && decide (r.f2 ≤ 16)
theorem runOK_iff (r : Run) : runOK r = true ↔ 0 ≤ r.f0 ∧ r.f0 < 16 ∧ 0 ≤ r.f1 ∧ r.f1 < r.f2 ∧ r.f2 ≤ 16 := by
  simp [runOK, and_assoc]
def runAfter (p r : Run) : Bool := decide (p.f0 < r.f0) || (decide (p.f0 = r.f0) && decide (p.f2 < r.f1))
theorem runAfter_iff (p r : Run) : runAfter p r = true ↔ p.f0 < r.f0 ∨ (p.f0 = r.f0 ∧ p.f2 < r.f1) := by
  simp [runAfter]
/-- Runs of a region: each in range, and behind the one before it. -/
def validFrom : Option Run → List Run → Bool
  | _, [] => true
  | none, r :: rs => runOK r && validFrom (some r) rs
  | some p, r :: rs => (runOK r && runAfter p r) && validFrom (some r) rs
def validR (l : List Run) : Bool := validFrom none l
def before (l : List Run) (i : Nat) : Option Run := if i = 0 then none else l[i - 1]?
theorem before_zero (l : List Run) : before l 0 = none := rfl
theorem before_succ (l : List Run) (i : Nat) (h : i < l.length) : before l (i + 1) = some l[i] := by simp [before, h]
theorem validFrom_at (l : List Run) (i : Nat) (h : i < l.length) : validFrom (before l i) (l.drop i) = ((runOK l[i] && (match before l i with | none => true | some p => runAfter p l[i])) && validFrom (before l (i + 1)) (l.drop (i + 1))) := by
  rw [List.drop_eq_getElem_cons h, before_succ l i h]
  cases before l i with
  | none => simp [validFrom]
  | some p => rfl
theorem inRange_eq' (n a b : Int) : spec_inRange.f n a b = some (decide (a ≤ n) && decide (n ≤ b)) := by
  unfold spec_inRange.f; by_cases h : a ≤ n <;> simp [h]
theorem sval_j1 (l : List Run) (i k : Nat) (hl : l.length ≤ 9223372036854775807) (h : i < l.length) (b : Bool) :
    spec_validRuns.j1 (k + 1) l i b l[i].f0 l[i].f1 l[i].f2 = if b = true then some false else if (match before l i with | none => true | some p => runAfter p l[i]) = true then spec_validRuns.l0 k l ((i + 1 : Nat) : Int) else some false := by
  simp only [spec_validRuns.j1]
  by_cases hb : b = true
  · rw [if_pos hb, if_pos hb]
  rw [if_neg hb, if_neg hb, w64n i (by omega)]
  cases i with
  | zero => simp [before]
  | succ i =>
    have e : ((i + 1 : Nat) : Int) - 1 = (i : Int) := by omega
    rw [if_pos (by omega), w64 (x := ((i + 1 : Nat) : Int) - 1) (by omega) (by omega), e, if_pos (by omega), if_pos (by omega), rdRun l i (by omega), before_succ l i (by omega)]
    simp only
    by_cases c1 : l[i + 1].f0 < l[i].f0
    · rw [if_pos c1, if_neg (by rw [runAfter_iff]; omega)]
    rw [if_neg c1]
    by_cases c2 : l[i + 1].f0 = l[i].f0
    · rw [if_pos c2]
      by_cases c3 : l[i + 1].f1 ≤ l[i].f2
      · rw [if_pos c3, if_neg (by rw [runAfter_iff]; omega)]
      · rw [if_neg c3, if_pos (by rw [runAfter_iff]; omega)]
    · rw [if_neg c2, if_pos (by rw [runAfter_iff]; omega)]
theorem spec_validRuns_eq (l : List Run) (hl : l.length ≤ 9223372036854775807) (k : Nat) (hk : 2 * l.length + 1 < k) : spec_validRuns.f k l = some (validR l) := by
  have key : ∀ d i k, i + d = l.length → 2 * d < k → spec_validRuns.l0 k l (i : Int) = some (validFrom (before l i) (l.drop i)) := by
    intro d
    induction d with
    | zero =>
      intro i k hi hk
      obtain ⟨k, rfl⟩ : ∃ m, k = m + 1 := ⟨k - 1, by omega⟩
      simp only [spec_validRuns.l0]
      rw [if_neg (by omega), List.drop_of_length_le (by omega)]
      cases before l i <;> rfl
    | succ d ih =>
      intro i k hi hk
      obtain ⟨k, rfl⟩ : ∃ m, k = m + 1 + 1 := ⟨k - 2, by omega⟩
      have hlt : i < l.length := by omega
      have hn := ih (i + 1) k (by omega) (by omega)
      rw [validFrom_at l i hlt]
      simp only [spec_validRuns.l0]
      rw [if_pos (by omega), if_pos (by omega), rdRun l i hlt, inRange_eq', inRange_eq', inRange_eq']
      simp only [Option.bind_some, sval_j1 l i k hl hlt, hn]
      by_cases c1 : 0 ≤ l[i].f0 ∧ l[i].f0 ≤ 15
      · rw [if_pos (by simpa using c1)]
        by_cases c2 : 0 ≤ l[i].f1 ∧ l[i].f1 ≤ 15
        · rw [if_pos (by simpa using c2), w64 (x := l[i].f1 + 1) (by omega) (by omega)]
          by_cases c3 : l[i].f1 + 1 ≤ l[i].f2 ∧ l[i].f2 ≤ 16
          · rw [if_neg (by simp; omega)]
            have : runOK l[i] = true := by rw [runOK_iff]; omega
            rw [this, Bool.true_and]
            cases (match before l i with | none => true | some p => runAfter p l[i]) <;> rfl
          · rw [if_pos (by simp; omega)]
            have : runOK l[i] = false := by rw [← Bool.not_eq_true, runOK_iff]; omega
            rw [this]; rfl
        · rw [if_neg (by simpa using c2), if_pos trivial]
          have : runOK l[i] = false := by rw [← Bool.not_eq_true, runOK_iff]; omega
          rw [this]; rfl
      · rw [if_neg (by simpa using c1), if_pos trivial]
        have : runOK l[i] = false := by rw [← Bool.not_eq_true, runOK_iff]; omega
        rw [this]; rfl
  unfold spec_validRuns.f
  have := key l.length 0 k (by omega) (by omega)
  simpa [before_zero, validR] using this
theorem ival_j1 (l : List Run) (i k : Nat) (hl : l.length ≤ 9223372036854775807) (h : i < l.length) (b : Bool) :
    impl_isRegion.j1 (k + 1) l i l (l.length : Int) i b l[i].f0 l[i].f1 l[i].f2 = if b = true then some false else if (match before l i with | none => true | some p => runAfter p l[i]) = true then impl_isRegion.l0 k l l (l.length : Int) ((i + 1 : Nat) : Int) else some false := by
  simp only [impl_isRegion.j1]
  by_cases hb : b = true
  · rw [if_pos hb, if_pos hb]
  rw [if_neg hb, if_neg hb, w64n i (by omega)]
  cases i with
  | zero => simp [before]
  | succ i =>
    have e : ((i + 1 : Nat) : Int) - 1 = (i : Int) := by omega
    rw [if_neg (by omega), w64 (x := ((i + 1 : Nat) : Int) - 1) (by omega) (by omega), e, if_pos (by omega), if_pos (by omega), rdRun l i (by omega), before_succ l i (by omega)]
    simp only
    by_cases c1 : l[i + 1].f0 < l[i].f0
    · rw [if_pos c1, if_neg (by rw [runAfter_iff]; omega)]
    rw [if_neg c1]
    by_cases c2 : l[i + 1].f0 = l[i].f0
    · rw [if_pos c2]
      by_cases c3 : l[i + 1].f1 ≤ l[i].f2
      · rw [if_pos c3, if_neg (by rw [runAfter_iff]; omega)]
      · rw [if_neg c3, if_pos (by rw [runAfter_iff]; omega)]
    · rw [if_neg c2, if_pos (by rw [runAfter_iff]; omega)]
theorem impl_isRegion_eq (l : List Run) (hl : l.length ≤ 9223372036854775807) (k : Nat) (hk : 2 * l.length + 1 < k) : impl_isRegion.f k l = some (validR l) := by
  have key : ∀ d i k, i + d = l.length → 2 * d < k → impl_isRegion.l0 k l l (l.length : Int) (i : Int) = some (validFrom (before l i) (l.drop i)) := by
    intro d
    induction d with
    | zero =>
      intro i k hi hk
      obtain ⟨k, rfl⟩ : ∃ m, k = m + 1 := ⟨k - 1, by omega⟩
      simp only [impl_isRegion.l0]
      rw [if_neg (by omega), List.drop_of_length_le (by omega)]
      cases before l i <;> rfl
    | succ d ih =>
      intro i k hi hk
      obtain ⟨k, rfl⟩ : ∃ m, k = m + 1 + 1 := ⟨k - 2, by omega⟩
      have hlt : i < l.length := by omega
      have hn := ih (i + 1) k (by omega) (by omega)
      rw [validFrom_at l i hlt]
      simp only [impl_isRegion.l0]
      rw [if_pos (by omega), if_pos (by omega), rdRun l i hlt]
      simp only [if_pos (show (i : Int) < (l.length : Int) by omega), ival_j1 l i k hl hlt, hn]
      by_cases c : runOK l[i] = true
      · rw [c, Bool.true_and]
        rw [runOK_iff] at c
        rw [if_neg (by omega), if_neg (by omega), if_neg (by omega), if_neg (by omega), if_neg (by simp; omega)]
        cases (match before l i with | none => true | some p => runAfter p l[i]) <;> rfl
      · have hc := c
        rw [runOK_iff] at c
        simp only [Bool.not_eq_true] at hc
        rw [hc, Bool.false_and, Bool.false_and]
        try simp only [if_true]
        by_cases c1 : l[i].f0 < 0
        · rw [if_pos c1]
        rw [if_neg c1]
        by_cases c2 : l[i].f0 ≥ 16
        · rw [if_pos c2]
        rw [if_neg c2]
        by_cases c3 : l[i].f1 < 0
        · rw [if_pos c3]
        rw [if_neg c3]
        by_cases c4 : l[i].f2 ≤ l[i].f1
        · rw [if_pos c4]
        rw [if_neg c4, if_pos (by simp; omega)]
  unfold impl_isRegion.f
  have := key l.length 0 k (by omega) (by omega)
  simpa [before_zero, validR] using this
theorem validFrom_ok (l : List Run) : ∀ p, validFrom p l = true → ∀ r ∈ l, runOK r = true := by
  induction l with
  | nil => intro p _ r hr; cases hr
  | cons x xs ih =>
    intro p h r hr
    have h2 : runOK x = true ∧ validFrom (some x) xs = true := by
      cases p with
      | none => simpa [validFrom] using h
      | some p => simp [validFrom] at h; exact ⟨h.1.1, h.2⟩
    rcases List.mem_cons.1 hr with rfl | hr
    · exact h2.1
    · exact ih _ h2.2 r hr
theorem valid_ok {l : List Run} (h : validR l = true) : ∀ r ∈ l, runOK r = true := validFrom_ok l none h
theorem valid_ranges {l : List Run} (h : validR l = true) : ∀ r ∈ l, 0 ≤ r.f0 ∧ r.f0 < 16 ∧ 0 ≤ r.f1 ∧ r.f2 ≤ 16 := by
  intro r hr
  have := (runOK_iff r).1 (valid_ok h r hr)
  omega
end Go.Proofs.Ytfgeickfheogoaa.Pure

/- Grids of pixels as the machine has them: 256 cells. -/
namespace Go.Proofs.Ytfgeickfheogoaa.Q
open Go.RowKit Go.Proofs.YtfgeickfheogoaaW.PrintWords Go.Proofs.YtfgeickfheogoaaW.PrintLast Go.Proofs.YtfgeickfheogoaaW.PrintMore
attribute [local go_sem] max2_int min2_int max_two min_two max_three min_three max_four min_four
set_option linter.unusedVariables false
set_option linter.unusedSimpArgs false

/-- The cells of a grid: pixel p is that in column p % 16 and row p / 16. -/
def gc (g : Nat → Bool) : Array Value := Array.ofFn (n := 256) fun i => .bool (g i.val)
theorem gc_size (g : Nat → Bool) : (gc g).size = 256 := by simp [gc]
theorem gc_get (g : Nat → Bool) (i : Nat) (h : i < 256) : (gc g)[i]? = some (.bool (g i)) := by simp [gc, h]
theorem gc_one (g : Nat → Bool) : (gc g).all (·.oneCell') = true := by
  rw [Array.all_eq_true]
  intro i hi
  simp [gc, Value.oneCell']
theorem gc_set (g : Nat → Bool) (i : Nat) (b : Bool) : (gc g).setIfInBounds i (.bool b) = gc (fun p => if p = i then b else g p) := by
  unfold gc
  apply Array.ext
  · simp
  · intro j h1 h2
    rw [Array.getElem_setIfInBounds (by simpa using h1)]
    simp only [Array.getElem_ofFn]
    by_cases e : i = j
    · subst e; simp
    · rw [if_neg e, if_neg (fun h => e h.symm)]
theorem gc_congr {g g' : Nat → Bool} (h : ∀ p, p < 256 → g p = g' p) : gc g = gc g' := by
  unfold gc
  congr 1
  funext i
  rw [h i.val i.isLt]
theorem zero66 : Try.zeroCells66 = gc (fun _ => false) := by kernel_rfl
theorem info66 : (Try.prog.info? 66).map (·.size) = some 256 := by kernel_rfl
/-- A world in which block B is a grid's. -/
def GridAt (W : World) (B : Nat) (g : Nat → Bool) : Prop := W.heap[B]? = some (.cells (gc g) 66 (0, 0))
theorem GridAt.cell {W : World} {B : Nat} {g : Nat → Bool} (h : GridAt W B g) (i : Nat) (hi : i < 256) : W.cell? ⟨B, i, none⟩ = some (.bool (g i)) := (blk_cell h i).trans (gc_get g i hi)
theorem GridAt.free {W : World} {B : Nat} {g : Nat → Bool} (h : GridAt W B g) (i : Nat) : W.frozen? ⟨B, i, none⟩ = false := blk_frozen h i
theorem GridAt.below {W W' : World} {B : Nat} {g : Nat → Bool} (h : GridAt W B g) (hb : Below W.heap.size W W') : GridAt W' B g := blk_below h hb
theorem GridAt.lt {W : World} {B : Nat} {g : Nat → Bool} (h : GridAt W B g) : B < W.heap.size := blk_lt h
theorem GridAt.set_ {W : World} {B : Nat} {g : Nat → Bool} (h : GridAt W B g) (i : Nat) (b : Bool) : GridAt (W.setCell ⟨B, i, none⟩ (.bool b)) B (fun p => if p = i then b else g p) := by
  have := blk_set h i (.bool b)
  rw [gc_set] at this
  exact this
theorem GridAt.new (W : World) (g : Nat → Bool) : GridAt (W.alloc (.cells (gc g) 66)) W.heap.size g := blk_new _ _
theorem GridAt.alloc {W : World} {B : Nat} {g : Nat → Bool} (h : GridAt W B g) (o : Obj) : GridAt (W.alloc o) B g := blk_alloc h o
theorem GridAt.congr {W : World} {B : Nat} {g g' : Nat → Bool} (h : GridAt W B g) (he : ∀ p, p < 256 → g p = g' p) : GridAt W B g' := by
  unfold GridAt at h ⊢
  rw [← gc_congr he]; exact h
theorem GridAt.load {W : World} {B : Nat} {g : Nat → Bool} (h : GridAt W B g) : (loadCellsFrom ⟨B, 0, none⟩ 0 256 #[]).run Try.prog W = .ok (gc g) W := by
  have := run_loadCells_list (P := Try.prog) W ⟨B, 0, none⟩ (gc g).toList (fun j v hv => by
    have hadd : (⟨B, 0, none⟩ : Addr).add j = ⟨B, j, none⟩ := by unfold Addr.add; split <;> simp_all
    rw [hadd, cell_of_row _ _ j _ 66 (0, 0) h]
    simpa using hv)
  simpa [loadCells, gc_size] using this
theorem GridAt.setRow {W : World} {B : Nat} {g : Nat → Bool} (h : GridAt W B g) (g' : Nat → Bool) : GridAt (W.setRow B (gc g')) B g' := setRow_heap W B _ _ _ _ h
theorem below_setRow {B : Nat} {a w : World} (h : Below B a w) {g : Nat} (hg : B ≤ g) (cs : Array Value) : Below B a (w.setRow g cs) :=
  ⟨h.os, h.tape, h.output, by rw [setRow_size]; exact h.size, fun i hi => (setRow_other w g i cs (by omega)).trans (h.block i hi)⟩
theorem underlying66 : Try.prog.underlying 66 = some (.array 16 64) := Try.underlying66
end Go.Proofs.Ytfgeickfheogoaa.Q

/- impl.gridOf: the grid of runs that are in range. -/
namespace Go.Proofs.Ytfgeickfheogoaa.Q
open Go.RowKit Go.Proofs.YtfgeickfheogoaaW.PrintWords Go.Proofs.YtfgeickfheogoaaW.PrintLast Go.Proofs.YtfgeickfheogoaaW.PrintMore
attribute [local go_sem] max2_int min2_int max_two min_two max_three min_three max_four min_four
set_option linter.unusedVariables false
set_option linter.unusedSimpArgs false

def runIn (r : S57) (p : Nat) : Bool := decide (r.f0 = ((p / 16 : Nat) : Int)) && decide (r.f1 ≤ ((p % 16 : Nat) : Int)) && decide (((p % 16 : Nat) : Int) < r.f2)
def gridF (l : List S57) (p : Nat) : Bool := l.any fun r => runIn r p
theorem gridF_succ (l : List S57) (k : Nat) (h : k < l.length) (p : Nat) : gridF (l.take (k + 1)) p = (gridF (l.take k) p || runIn l[k] p) := by
  unfold gridF
  rw [List.take_succ_eq_append_getElem h, List.any_append]; simp
/-- a run's pixels before column x -/
def runTo (r : S57) (x : Nat) (p : Nat) : Bool := decide (r.f0 = ((p / 16 : Nat) : Int)) && decide (r.f1 ≤ ((p % 16 : Nat) : Int)) && decide (p % 16 < x)
theorem runTo_step (r : S57) (Y x : Nat) (hY : r.f0 = (Y : Int)) (hx : x < 16) (hF : r.f1 ≤ (x : Int)) (g : Nat → Bool) (p : Nat) :
    (if p = Y * 16 + x then true else (g p || runTo r x p)) = (g p || runTo r (x + 1) p) := by
  unfold runTo
  by_cases e : p = Y * 16 + x
  · rw [if_pos e]
    have h1 : p % 16 = x := by omega
    have h2 : p / 16 = Y := by omega
    rw [h1, h2, hY]
    simp [hF]
  · rw [if_neg e]
    congr 1
    by_cases c1 : r.f0 = ((p / 16 : Nat) : Int)
    · have : decide (p % 16 < x) = decide (p % 16 < x + 1) := by
        rw [decide_eq_decide]
        have : p % 16 ≠ x := by omega
        omega
      rw [this]
    · rw [decide_eq_false c1, Bool.false_and, Bool.false_and, Bool.false_and]

set_option maxHeartbeats 8000000 in
set_option maxRecDepth 100000 in
theorem gridOf_calls (A0 : Option Addr) (c0 : Nat) (l0 : List S57) (w : World) (hr0 : Kd.C k57 w A0 l0.length l0) (hok : ∀ r ∈ l0, 0 ≤ r.f0 ∧ r.f0 < 16 ∧ 0 ≤ r.f1 ∧ r.f2 ≤ 16) :
    Calls Try.prog 59 #[.slice A0 l0.length c0] w fun e w' => e = .returned (.agg (gc (gridF l0))) ∧ Below w.heap.size w w' := by
  have hm : l0.length ≤ 9223372036854775807 := hr0.2.1
  have HR := Aside0.mk hr0
  have HOK := Aside0.mk hok
  clear hr0 hok
  have hu := Try.underlying57
  have z0 := zero66
  have hst := run_storeCells_new (P := Try.prog) (w.alloc (.cells (gc fun _ => false) 66)) 66 (gc fun _ => false) (gc fun _ => false) (by rw [gc_size]; exact info66) rfl (gc_one _)
  simp only [World.size_alloc] at hst
  go_enter Try.func59, Try.ntmps59
  go_wp2
  go_loopw [10] (fun v10 W => ∃ k : Nat, v10 = .int .i64 k ∧ k ≤ l0.length ∧ GridAt W (w.heap.size + 1) (gridF (l0.take k)) ∧ GridAt W w.heap.size (fun _ => false) ∧ Aside0 (Below w.heap.size w W)) (fun v10 _ => l0.length - (intOf v10).toNat)
  case atStart =>
    refine ⟨0, rfl, by omega, ?_, (GridAt.new _ _).alloc _, ⟨((Below.refl _ _).alloc (Nat.le_refl _) _).alloc (by simp) _⟩⟩
    have h := GridAt.new (w.alloc (.cells (gc fun _ => false) 66)) (fun _ => false)
    simp only [World.size_alloc] at h
    exact h.congr (fun p _ => by simp [gridF])
  case round =>
    obtain ⟨k, rfl, hk, hg, hg2, hb⟩ := hrel
    clear hst
    obtain ⟨wo, rfl⟩ : ∃ wo : World, wo = wr := ⟨_, rfl⟩
    by_cases hlt : k < l0.length
    · have hdk : decide ((k : Int) < (l0.length : Int)) = true := by simp; omega
      obtain ⟨ad, e, hx0, hx1, hx2⟩ := at_T57 HR.out (k : Int) (by omega) (by omega)
      cases e
      have er : rd_T57 l0 (k : Int) = l0[k] := by simp [rd_T57, hlt]
      have ho := HOK.out l0[k] (List.getElem_mem hlt)
      have HGS := Aside0.mk (gridF_succ l0 k hlt)
      rw [er, Int.toNat_natCast] at hx0 hx1 hx2
      clear er
      generalize l0[k] = r at *
      obtain ⟨Y, hY⟩ := Int.eq_ofNat_of_zero_le ho.1
      obtain ⟨F, hF⟩ := Int.eq_ofNat_of_zero_le ho.2.2.1
      have ho2 := ho.2.1
      have ho4 := ho.2.2.2
      clear ho
      rw [hY] at hx0 ho2
      rw [hF] at hx1
      replace hx0 := (hb.out.cell (World.block_lt_of_cell? w _ hx0)).trans hx0
      replace hx1 := (hb.out.cell (World.block_lt_of_cell? w _ hx1)).trans hx1
      replace hx2 := (hb.out.cell (World.block_lt_of_cell? w _ hx2)).trans hx2
      have HY := Aside0.mk hY
      have HF := Aside0.mk hF
      clear hY hF
      go_wp2
      have hlt2 := hg.lt
      go_loopw [6] (fun v6 W => ∃ x : Nat, v6 = .int .i64 x ∧ F ≤ x ∧ ((x : Int) ≤ r.f2 ∨ x = F) ∧ GridAt W (w.heap.size + 1) (fun p => gridF (l0.take k) p || runTo r x p) ∧ GridAt W w.heap.size (fun _ => false) ∧ Aside0 (W.heap[wo.heap.size]? = some (.cells #[.int .i64 (Y : Int), .int .i64 (F : Int), .int .i64 r.f2] 57 (0, 0))) ∧ Aside0 (Below w.heap.size w W)) (fun v6 _ => 17 - (intOf v6).toNat + (r.f2 - (intOf v6)).toNat)
      case atStart =>
        refine ⟨F, rfl, Nat.le_refl _, .inr rfl, (hg.alloc _).congr (fun p _ => ?_), hg2.alloc _, ⟨blk_new _ _⟩, ⟨below_alloc hb.out _⟩⟩
        have : runTo r F p = false := by
          unfold runTo
          rw [HF.out]
          by_cases c : ((F : Nat) : Int) ≤ ((p % 16 : Nat) : Int)
          · rw [decide_eq_false (show ¬ p % 16 < F by omega), Bool.and_false]
          · rw [decide_eq_false c, Bool.and_false, Bool.false_and]
        rw [this, Bool.or_false]
      case round =>
        clear hg hg2 hb
        obtain ⟨x, rfl, hFx, hx, hg, hg2, hr, hb⟩ := hrel
        have hc0 : wr.cell? ⟨wo.heap.size, 0, none⟩ = some (.int .i64 (Y : Int)) := (blk_cell hr.out 0).trans rfl
        have hc2 : wr.cell? ⟨wo.heap.size, 2, none⟩ = some (.int .i64 r.f2) := (blk_cell hr.out 2).trans rfl
        by_cases hxt : (x : Int) < r.f2
        · have hdx : decide ((x : Int) < r.f2) = true := by simpa using hxt
          have hcg := hg.cell (Y * 16 + x) (by omega)
          have hfg := hg.free (Y * 16 + x)
          have hx16 : x < 16 := by omega
          go_wp2
          go_roundw
          case rel => exact ⟨x + 1, by go_num, by omega, .inl (by omega), (hg.set_ (Y * 16 + x) true).congr (fun p _ => runTo_step r Y x HY.out hx16 (by rw [HF.out]; omega) _ p), blk_far hg2 (by simp) _, ⟨blk_far hr.out (by simp; omega) _⟩, ⟨below_set hb.out (by omega)⟩⟩
          case measure => simp [intOf]; omega
        · have hdx : decide ((x : Int) < r.f2) = false := by simpa using hxt
          go_wp2
          go_roundw
          case rel =>
            refine ⟨k + 1, by go_num, by omega, hg.congr (fun p _ => ?_), hg2, hb⟩
            rw [HGS.out]
            congr 1
            unfold runTo runIn
            rw [HF.out]
            by_cases c : ((F : Nat) : Int) ≤ ((p % 16 : Nat) : Int)
            · congr 1
              rw [decide_eq_decide]
              omega
            · rw [decide_eq_false c, Bool.and_false, Bool.false_and, Bool.false_and]
          case measure => simp [intOf]; omega
    · have hdk : decide ((k : Int) < (l0.length : Int)) = false := by simp; omega
      have hkl : k = l0.length := by omega
      subst hkl
      have hi : (Try.prog.info? 66).map (·.size) = some (gc (gridF l0)).size := by rw [gc_size]; exact info66
      have hold : (gc fun _ => false).size = (gc (gridF l0)).size := by rw [gc_size, gc_size]
      have h1 := gc_one (gridF l0)
      rw [List.take_length] at hg
      have hg' : wo.heap[w.heap.size + 1]? = some (.cells (gc (gridF l0)) 66 (0, 0)) := hg
      have hg2' : wo.heap[w.heap.size]? = some (.cells (gc fun _ => false) 66 (0, 0)) := hg2
      go_wp2_with (first
        | ((with_reducible refine gate_dst (N := 28) rfl ?_); refine wpList_load_row rfl 66 (.tmp 3) rfl (w.heap.size + 1) rfl 66 (gc (gridF l0)) (0, 0) (.array 16 64) hg' underlying66 rfl hi ?_)
        | ((with_reducible refine wpList_store_row rfl 66 (.tmp 2) (.tmp 28) rfl w.heap.size (gc (gridF l0)) ?hx ?hy 66 (gc fun _ => false) hg2' hi hold h1 ?_); (case hx => rfl); (case hy => rfl)))
      refine bodyPost_ret (results_cell_row rfl _ _ w.heap.size 66 (gc (gridF l0)) (0, 0) (.array 16 64) rfl (hg2.setRow (gridF l0)) underlying66 rfl hi) rfl ?_
      exact ⟨rfl, below_setRow hb.out (Nat.le_refl _) _⟩
end Go.Proofs.Ytfgeickfheogoaa.Q

/- (impl.grid).runs: the runs of a grid, row by row. -/
namespace Go.Proofs.Ytfgeickfheogoaa.Q
open Go.RowKit Go.Proofs.YtfgeickfheogoaaW.PrintWords Go.Proofs.YtfgeickfheogoaaW.PrintLast Go.Proofs.YtfgeickfheogoaaW.PrintMore
attribute [local go_sem] max2_int min2_int max_two min_two max_three min_three max_four min_four
set_option linter.unusedVariables false
set_option linter.unusedSimpArgs false

/-- the end of the run that begins at x or before -/
def endAt (g : Nat → Bool) (y : Nat) : Nat → Nat → Nat
  | 0, x => x
  | n + 1, x => if x < 16 ∧ g (y * 16 + x) = true then endAt g y n (x + 1) else x
theorem endAt_ge (g : Nat → Bool) (y n x : Nat) : x ≤ endAt g y n x := by
  induction n generalizing x with
  | zero => exact Nat.le_refl _
  | succ n ih =>
    unfold endAt
    split
    · exact Nat.le_trans (Nat.le_succ x) (ih (x + 1))
    · exact Nat.le_refl _
/-- the runs of a row from column x on -/
def scanRow (g : Nat → Bool) (y x : Nat) : List S57 :=
  if _h : x < 16 then
    if g (y * 16 + x) = true then ⟨(y : Int), (x : Int), (endAt g y (16 - x) x : Nat)⟩ :: scanRow g y (endAt g y (16 - x) x + 1)
    else scanRow g y (x + 1)
  else []
  termination_by 16 - x
  decreasing_by
    · have := endAt_ge g y (16 - x) x; omega
    · omega
def runsTo (g : Nat → Bool) (y : Nat) : List S57 := (List.range y).flatMap fun y => scanRow g y 0
/-- the runs of a grid -/
def runsL (g : Nat → Bool) : List S57 := runsTo g 16
theorem runsTo_succ (g : Nat → Bool) (y : Nat) : runsTo g (y + 1) = runsTo g y ++ scanRow g y 0 := by
  simp [runsTo, List.range_succ]
theorem scan_true (g : Nat → Bool) (y x : Nat) (h : x < 16) (hg : g (y * 16 + x) = true) : scanRow g y x = ⟨(y : Int), (x : Int), (endAt g y (16 - x) x : Nat)⟩ :: scanRow g y (endAt g y (16 - x) x + 1) := by
  rw [scanRow, dif_pos h, if_pos hg]
theorem scan_false (g : Nat → Bool) (y x : Nat) (h : x < 16) (hg : g (y * 16 + x) = false) : scanRow g y x = scanRow g y (x + 1) := by
  rw [scanRow, dif_pos h, if_neg (by simp [hg])]
theorem scan_end (g : Nat → Bool) (y x : Nat) (h : 16 ≤ x) : scanRow g y x = [] := by
  rw [scanRow, dif_neg (by omega)]
theorem endAt_step (g : Nat → Bool) (y x : Nat) (h : x < 16) (hg : g (y * 16 + x) = true) : endAt g y (16 - x) x = endAt g y (16 - (x + 1)) (x + 1) := by
  rw [show 16 - x = (16 - (x + 1)) + 1 by omega]
  rw [endAt, if_pos ⟨h, hg⟩]
theorem endAt_stop (g : Nat → Bool) (y x : Nat) (h : 16 ≤ x ∨ g (y * 16 + x) = false) : endAt g y (16 - x) x = x := by
  cases hn : 16 - x with
  | zero => rfl
  | succ n => rw [endAt, if_neg (by rcases h with h | h; omega; simp [h])]

set_option maxHeartbeats 4000000 in
set_option maxRecDepth 100000 in
theorem runs_calls (g : Nat → Bool) (w : World) :
    Calls Try.prog 65 #[.agg (gc g)] w fun e w' => ∃ v0_ : Value, e = .returned (v0_) ∧ Kd.R k57 57 w' w.heap.size (fun _ => True) v0_ (runsL g) ∧ Below w.heap.size w w' := by
  have hu := Try.underlying57
  have hgs := gc_size g
  go_enter Try.func65, Try.ntmps65
  go_wp2
  go_loopw [3, 8] (fun v3 v8 W => ∃ y : Nat, v8 = .int .i64 y ∧ y ≤ 16 ∧ Aside0 (Kd.R k57 57 W w.heap.size (fun _ => True) v3 (runsTo g y) ∧ (runsTo g y).length ≤ 17 * y) ∧ GridAt W w.heap.size g ∧ Aside0 (Below w.heap.size w W)) (fun _ v8 _ => 16 - (intOf v8).toNat)
  case atStart =>
    have h := R_empty k57 57 w.heap.size (w.alloc (.cells (gc g) 66)) (by simp)
    simp only [World.size_alloc] at h
    exact ⟨0, rfl, by omega, ⟨h, by simp [runsTo]⟩, (GridAt.new _ _).alloc _, ⟨((Below.refl _ _).alloc (Nat.le_refl _) _).alloc (by simp) _⟩⟩
  case round =>
    obtain ⟨y, rfl, hy, hR, hg, hb⟩ := hrel
    by_cases hlt : y < 16
    · have hdy : decide ((y : Int) < 16) = true := by simp; omega
      go_wp2
      go_loopw [3, 5] (fun v3 v5 W => ∃ (x : Nat) (xs : List S57), v5 = .int .i64 x ∧ x ≤ 17 ∧ Aside0 (Kd.R k57 57 W w.heap.size (fun _ => True) v3 xs ∧ xs.length ≤ 17 * y + x ∧ xs ++ scanRow g y x = runsTo g (y + 1)) ∧ GridAt W w.heap.size g ∧ Aside0 (Below w.heap.size w W)) (fun _ v5 _ => 17 - (intOf v5).toNat)
      case atStart => exact ⟨0, _, rfl, by omega, ⟨hR.out.1, by have := hR.out.2; omega, (runsTo_succ g y).symm⟩, hg, hb⟩
      case round =>
        clear hR hg hb
        obtain ⟨x, xs, rfl, hx, hR, hg, hb⟩ := hrel
        by_cases hlx : x < 16
        · have hdx : decide ((x : Int) < 16) = true := by simp; omega
          have hc := hg.cell (y * 16 + x) (by omega)
          by_cases hv : g (y * 16 + x) = true
          · rw [hv] at hc
            have hs := scan_true g y x hlx hv
            have HS := Aside0.mk hs
            clear hs
            go_wp2
            go_loop [5] (fun v5 => ∃ z : Nat, v5 = .int .i64 z ∧ x ≤ z ∧ z ≤ 16 ∧ Aside0 (endAt g y (16 - z) z = endAt g y (16 - x) x)) (fun v5 => 16 - (intOf v5).toNat)
            case atStart => exact ⟨x, rfl, by omega, by omega, ⟨rfl⟩⟩
            case round =>
              clear hc
              obtain ⟨z, rfl, hxz, hz, hE⟩ := hrel
              have hgz := hg.alloc (.cells #[.int .i64 (y : Int), .int .i64 (x : Int), .int .i64 0] 57)
              by_cases hz16 : z < 16 ∧ g (y * 16 + z) = true
              · obtain ⟨hlz, hvz⟩ := hz16
                have hdz : decide ((z : Int) < 16) = true := by simp; omega
                have hc := hgz.cell (y * 16 + z) (by omega)
                rw [hvz] at hc
                have hE2 := Aside0.mk ((endAt_step g y z hlz hvz).symm.trans hE.out)
                clear hvz hE
                go_wp2
                go_round
                case rel => exact ⟨z + 1, by go_num, by omega, by omega, hE2⟩
                case measure => simp [intOf]; omega
              · have hz17 : 16 ≤ z ∨ g (y * 16 + z) = false := by
                  by_cases h : z < 16
                  · right
                    cases hgv : g (y * 16 + z) with
                    | false => rfl
                    | true => exact absurd ⟨h, hgv⟩ hz16
                  · left; omega
                have hstop := endAt_stop g y z hz17
                have hEZ := Aside0.mk (hE.out.symm.trans hstop)
                have hl24 : xs.length + 1 ≤ 1000 := by have := hR.out.2.1; omega
                have hRB := Aside0.mk (Kd.R_alloc hR.out.1 (.cells #[.int .i64 (y : Int), .int .i64 (x : Int), .int .i64 (z : Int)] 57))
                have hBB := Aside0.mk (below_alloc hb.out (.cells #[.int .i64 (y : Int), .int .i64 (x : Int), .int .i64 (z : Int)] 57))
                have hGB := Aside0.mk (blk_alloc hg (.cells #[.int .i64 (y : Int), .int .i64 (x : Int), .int .i64 (z : Int)] 57))
                have hNE := Aside0.mk (Kd.R_ne hRB.out hGB.out (by decide))
                clear hstop hE hz16
                rcases hz17 with hz17 | hz17
                · have hdz : decide ((z : Int) < 16) = false := by simp; omega
                  go_wp2_with (first | ((with_reducible refine gate_builtin (b := .append) (xs := #[.tmp 37, .tmp 39]) rfl ?_); at_builtin; refine Kd.R_append k57 w.heap.size rfl (.tmp 37) (.tmp 39) 25 57 (.agg #[(.int .i64 0), (.int .i64 0), (.int .i64 0)]) 24 rfl Try.underlying25 info57 rfl (by decide) (by omega) u3 xs (⟨(y : Int), (x : Int), (z : Int)⟩ : S57) [.int .i64 (y : Int), .int .i64 (x : Int), .int .i64 (z : Int)] (fun _ => True) (fun _ => False) rfl ?aX ?aP (fun _ hk => hk.elim) (fun _ _ => trivial) hRB.out hBB.out ?aS ?aL ?_; (case aX => rw [World.size_alloc]; rfl); (case aP => exact k57_mkM _ _ _ (⟨(y : Int), (x : Int), (z : Int)⟩ : S57)); (case aS => exact hBB.out.size); (case aL => omega); intro v4 w4 ho hb4 hg4 hat4; have hG4 := Aside0.mk (blk_grown hGB.out hg4 hNE.out); have hO4 := Aside0.mk ho; have hB4 := Aside0.mk hb4; clear ho hb4 hg4 hat4))
                  go_roundw
                  case rel =>
                    refine ⟨z + 1, xs ++ [⟨(y : Int), (x : Int), (z : Int)⟩], by go_num, by omega, ⟨hO4.out, by have := hR.out.2.1; rw [List.length_append]; simp; omega, ?_⟩, hG4.out, hB4⟩
                    have h1 := hR.out.2.2
                    rw [HS.out, hEZ.out] at h1
                    rw [List.append_assoc]; exact h1
                  case measure => simp [intOf]; omega
                · by_cases hlz : z < 16
                  · have hdz : decide ((z : Int) < 16) = true := by simp; omega
                    have hc := hgz.cell (y * 16 + z) (by omega)
                    rw [hz17] at hc
                    go_wp2_with (first | ((with_reducible refine gate_builtin (b := .append) (xs := #[.tmp 37, .tmp 39]) rfl ?_); at_builtin; refine Kd.R_append k57 w.heap.size rfl (.tmp 37) (.tmp 39) 25 57 (.agg #[(.int .i64 0), (.int .i64 0), (.int .i64 0)]) 24 rfl Try.underlying25 info57 rfl (by decide) (by omega) u3 xs (⟨(y : Int), (x : Int), (z : Int)⟩ : S57) [.int .i64 (y : Int), .int .i64 (x : Int), .int .i64 (z : Int)] (fun _ => True) (fun _ => False) rfl ?aX ?aP (fun _ hk => hk.elim) (fun _ _ => trivial) hRB.out hBB.out ?aS ?aL ?_; (case aX => rw [World.size_alloc]; rfl); (case aP => exact k57_mkM _ _ _ (⟨(y : Int), (x : Int), (z : Int)⟩ : S57)); (case aS => exact hBB.out.size); (case aL => omega); intro v4 w4 ho hb4 hg4 hat4; have hG4 := Aside0.mk (blk_grown hGB.out hg4 hNE.out); have hO4 := Aside0.mk ho; have hB4 := Aside0.mk hb4; clear ho hb4 hg4 hat4))
                    go_roundw
                    case rel =>
                      refine ⟨z + 1, xs ++ [⟨(y : Int), (x : Int), (z : Int)⟩], by go_num, by omega, ⟨hO4.out, by have := hR.out.2.1; rw [List.length_append]; simp; omega, ?_⟩, hG4.out, hB4⟩
                      have h1 := hR.out.2.2
                      rw [HS.out, hEZ.out] at h1
                      rw [List.append_assoc]; exact h1
                    case measure => simp [intOf]; omega

                  · have hdz : decide ((z : Int) < 16) = false := by simp; omega
                    go_wp2_with (first | ((with_reducible refine gate_builtin (b := .append) (xs := #[.tmp 37, .tmp 39]) rfl ?_); at_builtin; refine Kd.R_append k57 w.heap.size rfl (.tmp 37) (.tmp 39) 25 57 (.agg #[(.int .i64 0), (.int .i64 0), (.int .i64 0)]) 24 rfl Try.underlying25 info57 rfl (by decide) (by omega) u3 xs (⟨(y : Int), (x : Int), (z : Int)⟩ : S57) [.int .i64 (y : Int), .int .i64 (x : Int), .int .i64 (z : Int)] (fun _ => True) (fun _ => False) rfl ?aX ?aP (fun _ hk => hk.elim) (fun _ _ => trivial) hRB.out hBB.out ?aS ?aL ?_; (case aX => rw [World.size_alloc]; rfl); (case aP => exact k57_mkM _ _ _ (⟨(y : Int), (x : Int), (z : Int)⟩ : S57)); (case aS => exact hBB.out.size); (case aL => omega); intro v4 w4 ho hb4 hg4 hat4; have hG4 := Aside0.mk (blk_grown hGB.out hg4 hNE.out); have hO4 := Aside0.mk ho; have hB4 := Aside0.mk hb4; clear ho hb4 hg4 hat4))
                    go_roundw
                    case rel =>
                      refine ⟨z + 1, xs ++ [⟨(y : Int), (x : Int), (z : Int)⟩], by go_num, by omega, ⟨hO4.out, by have := hR.out.2.1; rw [List.length_append]; simp; omega, ?_⟩, hG4.out, hB4⟩
                      have h1 := hR.out.2.2
                      rw [HS.out, hEZ.out] at h1
                      rw [List.append_assoc]; exact h1
                    case measure => simp [intOf]; omega
          · replace hv : g (y * 16 + x) = false := by simpa using hv
            rw [hv] at hc
            have hs := scan_false g y x hlx hv
            have HS := Aside0.mk hs
            clear hs
            go_wp2
            go_roundw
            case rel => exact ⟨x + 1, xs, by go_num, by omega, ⟨hR.out.1, by have := hR.out.2.1; omega, by rw [← HS.out]; exact hR.out.2.2⟩, hg, hb⟩
            case measure => simp [intOf]; omega
        · have hdx : decide ((x : Int) < 16) = false := by simp; omega
          have he := scan_end g y x (by omega)
          have HE := Aside0.mk he
          clear he
          go_wp2
          go_roundw
          case rel =>
            have h1 := hR.out.2.2
            rw [HE.out, List.append_nil] at h1
            exact ⟨y + 1, by go_num, by omega, ⟨by rw [← h1]; exact hR.out.1, by rw [← h1]; have := hR.out.2.1; omega⟩, hg, hb⟩
          case measure => simp [intOf]; omega
    · have hdy : decide ((y : Int) < 16) = false := by simp; omega
      have hy16 : y = 16 := by omega
      subst hy16
      go_wp2
      go_ret
      exact ⟨_, rfl, hR.out.1, hb.out⟩
end Go.Proofs.Ytfgeickfheogoaa.Q

/- Grids and their runs, as the reference has them: lists of 256 bools. -/
namespace Go.Proofs.Ytfgeickfheogoaa.Pure
open Go.RowKit Go.Proofs.Ytfgeickfheogoaa.Q Go.Proofs.YtfgeickfheogoaaW.PrintWords Go.Proofs.YtfgeickfheogoaaW.PrintLast Go.Proofs.YtfgeickfheogoaaW.PrintMore
set_option linter.unusedVariables false
set_option linter.unusedSimpArgs false

/-- A grid as a list. -/
def tab (g : Nat → Bool) : List Bool := (List.range 256).map g
theorem tab_length (g : Nat → Bool) : (tab g).length = 256 := by simp [tab]
theorem tab_get (g : Nat → Bool) (i : Nat) (h : i < 256) : rdOf false (tab g) (i : Int) = g i := by
  simp [rdOf, tab, List.getD_eq_getElem?_getD, h]
theorem tab_set (g : Nat → Bool) (i : Nat) (b : Bool) : (tab g).set i b = tab (fun p => if p = i then b else g p) := by
  apply List.ext_getElem
  · simp [tab]
  · intro j h1 h2
    rw [List.getElem_set]
    simp only [tab, List.getElem_map, List.getElem_range]
    by_cases e : i = j
    · rw [if_pos e, if_pos e.symm]
    · rw [if_neg e, if_neg (fun h => e h.symm)]
theorem tab_congr {g g' : Nat → Bool} (h : ∀ p, p < 256 → g p = g' p) : tab g = tab g' := by
  unfold tab
  apply List.map_congr_left
  intro p hp
  exact h p (by simpa using hp)
theorem tab_false : List.replicate 256 false = tab (fun _ => false) := by
  refine List.ext_getElem (by rw [List.length_replicate, tab_length]) (fun j h1 h2 => ?_)
  rw [List.getElem_replicate]
  simp only [tab, List.getElem_map]
/-- a grid's cells beyond 256 do not matter to its runs -/
theorem endAt_congr {g g' : Nat → Bool} (h : ∀ p, p < 256 → g p = g' p) (y : Nat) (hy : y < 16) : ∀ n x, endAt g y n x = endAt g' y n x := by
  intro n
  induction n with
  | zero => intro x; rfl
  | succ n ih =>
    intro x
    unfold endAt
    by_cases hx : x < 16
    · rw [h (y * 16 + x) (by omega), ih (x + 1)]
    · rw [if_neg (fun c => hx c.1), if_neg (fun c => hx c.1)]
theorem scan_congr {g g' : Nat → Bool} (h : ∀ p, p < 256 → g p = g' p) (y : Nat) (hy : y < 16) : ∀ d x, 17 ≤ x + d → scanRow g y x = scanRow g' y x := by
  intro d
  induction d with
  | zero => intro x hx; rw [scan_end g y x (by omega), scan_end g' y x (by omega)]
  | succ d ih =>
    intro x hx
    by_cases h16 : x < 16
    · cases hv : g (y * 16 + x) with
      | true =>
        have hv' : g' (y * 16 + x) = true := by rw [← h _ (by omega)]; exact hv
        have := endAt_ge g y (16 - x) x
        rw [scan_true g y x h16 hv, scan_true g' y x h16 hv', endAt_congr h y hy, ih _ (by rw [← endAt_congr h y hy]; omega)]
      | false =>
        have hv' : g' (y * 16 + x) = false := by rw [← h _ (by omega)]; exact hv
        rw [scan_false g y x h16 hv, scan_false g' y x h16 hv', ih _ (by omega)]
    · rw [scan_end g y x (by omega), scan_end g' y x (by omega)]
theorem runsL_congr {g g' : Nat → Bool} (h : ∀ p, p < 256 → g p = g' p) : runsL g = runsL g' := by
  unfold runsL runsTo
  rw [List.flatMap_def, List.flatMap_def]
  congr 1
  apply List.map_congr_left
  intro y hy
  exact scan_congr h y (by simpa using hy) 17 0 (by omega)
/-! the reference's grid -/
theorem spec_gridOf_ev (l : List Run) (hl : l.length ≤ 1000000000) (hok : ∀ r ∈ l, 0 ≤ r.f0 ∧ r.f0 < 16 ∧ 0 ≤ r.f1 ∧ r.f2 ≤ 16) : Ev (fun k => spec_gridOf.f k l) (tab (gridF l)) := by
  have key := ev_up2 l.length (fun k i (s : List Bool) => spec_gridOf.l0 k l s (i : Int)) (fun i s => s = tab (gridF (l.take i))) (fun _ _ => tab (gridF l))
    (by
      intro i s hi hs
      right
      have ho := hok l[i] (List.getElem_mem hi)
      refine ⟨tab (gridF (l.take (i + 1))), fun r hr => ?_, rfl, rfl⟩
      have inner : ∀ d x : Nat, l[i].f1 ≤ (x : Int) → ((x : Int) + d = l[i].f2 ∨ (d = 0 ∧ l[i].f2 ≤ x ∧ (x : Int) = l[i].f1)) →
          Ev (fun k => spec_gridOf.l1 k l (tab (fun p => gridF (l.take i) p || runTo l[i] x p)) (i : Int) (x : Int)) r := by
        intro d
        induction d with
        | zero =>
          intro x hx hd
          have he : tab (fun p => gridF (l.take i) p || runTo l[i] x p) = tab (gridF (l.take (i + 1))) := by
            apply tab_congr
            intro p _
            rw [gridF_succ l i hi]
            congr 1
            unfold runTo runIn
            by_cases c : l[i].f1 ≤ ((p % 16 : Nat) : Int)
            · congr 1
              rw [decide_eq_decide]
              omega
            · rw [decide_eq_false c, Bool.and_false, Bool.false_and, Bool.false_and]
          refine Ev.step (fun k => ?_) hr
          simp only [spec_gridOf.l1]
          rw [if_pos (by omega), if_pos (by omega), rdRun l i hi, if_neg (by omega), w64n i (by omega), he]
        | succ d ih =>
          intro x hx hd
          have hx16 : x < 16 := by omega
          obtain ⟨Y, hY⟩ := Int.eq_ofNat_of_zero_le ho.1
          have hs' : (tab (fun p => gridF (l.take i) p || runTo l[i] x p)).set (Y * 16 + x) true = tab (fun p => gridF (l.take i) p || runTo l[i] (x + 1) p) := by
            rw [tab_set]
            exact tab_congr (fun p _ => runTo_step l[i] Y x hY hx16 hx _ p)
          have hn := ih (x + 1) (by omega) (by omega)
          refine Ev.step (fun k => ?_) hn
          simp only [spec_gridOf.l1]
          have e1 : wrap64 (wrap64 (l[i].f0 * 16) + (x : Int)) = ((Y * 16 + x : Nat) : Int) := by
            rw [hY, w64 (x := (Y : Int) * 16) (by omega) (by omega), w64 (x := (Y : Int) * 16 + (x : Int)) (by omega) (by omega)]; omega
          rw [if_pos (by omega), if_pos (by omega), rdRun l i hi, if_pos (by omega), e1, if_pos (by omega), tab_length, if_pos (by omega), Int.toNat_natCast, hs', w64n x (by omega)]
      obtain ⟨F, hF⟩ := Int.eq_ofNat_of_zero_le ho.2.2.1
      have h0 : Ev (fun k => spec_gridOf.l1 k l (tab (fun p => gridF (l.take i) p || runTo l[i] F p)) (i : Int) (F : Int)) r := by
        by_cases c : l[i].f1 ≤ l[i].f2
        · exact inner (l[i].f2 - l[i].f1).toNat F (by omega) (.inl (by omega))
        · exact inner 0 F (by omega) (.inr ⟨rfl, by omega, by omega⟩)
      have he : tab (fun p => gridF (l.take i) p || runTo l[i] F p) = s := by
        rw [hs]
        apply tab_congr
        intro p _
        have : runTo l[i] F p = false := by
          unfold runTo
          rw [hF]
          by_cases c : ((F : Nat) : Int) ≤ ((p % 16 : Nat) : Int)
          · rw [decide_eq_false (show ¬ p % 16 < F by omega), Bool.and_false]
          · rw [decide_eq_false c, Bool.and_false, Bool.false_and]
        rw [this, Bool.or_false]
      rw [he] at h0
      refine Ev.step (fun k => ?_) h0
      simp only [spec_gridOf.l0]
      rw [if_pos (by omega), if_pos (by omega), rdRun l i hi, hF])
    (by
      intro s hs
      refine Ev.step (f := fun _ => some s) (fun k => ?_) (ev_val (Ev.now s) (by rw [hs, List.take_length]))
      simp only [spec_gridOf.l0]
      rw [if_neg (by omega)])
    l.length 0 (tab (gridF (l.take 0))) (by omega) rfl
  unfold spec_gridOf.f
  refine Ev.congr (fun k => ?_) key
  rw [if_pos (by omega), tab_false]
  rfl
/-! the reference's runs -/
def rowRest (g : Nat → Bool) (y x : Nat) (from_ : Int) : List Run :=
  if from_ < 0 then scanRow g y x else ⟨(y : Int), from_, (endAt g y (16 - x) x : Nat)⟩ :: scanRow g y (endAt g y (16 - x) x + 1)
theorem spec_runsOf_ev (g : Nat → Bool) : Ev (fun k => spec_runsOf.f k (tab g)) (runsL g) := by
  have key := ev_up2 16 (fun k y (s : List Run) => spec_runsOf.l0 k (tab g) s (y : Int)) (fun y s => s = runsTo g y ∧ s.length ≤ 17 * y) (fun _ _ => runsL g)
    (by
      intro y s hy hs
      right
      have inner : ∀ r, (∀ acc : List Run, acc = runsTo g (y + 1) → acc.length ≤ 17 * (y + 1) → Ev (fun k => spec_runsOf.l0 k (tab g) acc ((y + 1 : Nat) : Int)) r) →
          Ev (fun k => spec_runsOf.l1 k (tab g) s (y : Int) (-1) 0) r := by
        intro r hnext
        have h := ev_up2 17 (fun k x (q : List Run × Int) => spec_runsOf.l1 k (tab g) q.1 (y : Int) q.2 (x : Int))
          (fun x q => q.1 ++ rowRest g y x q.2 = runsTo g (y + 1) ∧ q.1.length ≤ 17 * y + x ∧ (q.2 = -1 ∨ (0 ≤ q.2 ∧ q.2 < x ∧ x ≤ 16))) (fun _ _ => r)
          (by
            intro x q hx hq
            obtain ⟨acc, fr⟩ := q
            obtain ⟨h1, h2, h3⟩ := hq
            simp only at h1 h2 h3
            right
            have j3 : ∀ (b : Bool), (x < 16 → b = g (y * 16 + x)) → (x = 16 → b = false) → ∃ s' : List Run × Int,
                (∀ r, Ev (fun k => spec_runsOf.l1 k (tab g) s'.1 (y : Int) s'.2 ((x + 1 : Nat) : Int)) r → Ev (fun k => spec_runsOf.j2 k (tab g) acc (y : Int) fr (x : Int) b) r) ∧
                (s'.1 ++ rowRest g y (x + 1) s'.2 = runsTo g (y + 1) ∧ s'.1.length ≤ 17 * y + (x + 1) ∧ (s'.2 = -1 ∨ (0 ≤ s'.2 ∧ s'.2 < ((x + 1 : Nat) : Int) ∧ x + 1 ≤ 16))) := by
              intro b hb hb16
              rcases h3 with h3 | h3
              · subst h3
                cases b with
                | true =>
                  have hx16 : x < 16 := by
                    by_cases c : x = 16
                    · have := hb16 c; cases this
                    · omega
                  refine ⟨(acc, (x : Int)), fun r hr => ?_, ?_, by simp only; omega, .inr (by simp only; omega)⟩
                  · refine Ev.step (f := fun k => spec_runsOf.j3 k (tab g) acc (y : Int) (-1) (x : Int) true true) (fun k => ?_) (Ev.step (fun k => ?_) hr)
                    · simp only [spec_runsOf.j2]; simp
                    · simp only [spec_runsOf.j3]
                      rw [if_pos trivial, if_pos trivial, w64n x (by omega)]
                  · have hv := (hb hx16).symm
                    rw [← h1]
                    show acc ++ rowRest g y (x + 1) (x : Int) = acc ++ rowRest g y x (-1)
                    unfold rowRest
                    rw [if_neg (by omega), if_pos (by omega), scan_true g y x hx16 hv, endAt_step g y x hx16 hv]
                | false =>
                  refine ⟨(acc, -1), fun r hr => ?_, ?_, by simp only; omega, .inl rfl⟩
                  · refine Ev.step (f := fun k => spec_runsOf.j3 k (tab g) acc (y : Int) (-1) (x : Int) false false) (fun k => ?_) (Ev.step (fun k => ?_) hr)
                    · simp only [spec_runsOf.j2]; simp
                    · simp only [spec_runsOf.j3]
                      rw [if_neg (by simp), if_neg (by simp), if_neg (by omega), w64n x (by omega)]
                  · rw [← h1]
                    show acc ++ rowRest g y (x + 1) (-1) = acc ++ rowRest g y x (-1)
                    unfold rowRest
                    rw [if_pos (by omega), if_pos (by omega)]
                    by_cases c : x < 16
                    · rw [scan_false g y x c (hb c).symm]
                    · rw [scan_end g y x (by omega), scan_end g y (x + 1) (by omega)]
              · cases b with
                | true =>
                  have hx16 : x < 16 := by
                    by_cases c : x = 16
                    · have := hb16 c; cases this
                    · omega
                  refine ⟨(acc, fr), fun r hr => ?_, ?_, by simp only; omega, .inr (by simp only; omega)⟩
                  · refine Ev.step (f := fun k => spec_runsOf.j3 k (tab g) acc (y : Int) fr (x : Int) true false) (fun k => ?_) (Ev.step (fun k => ?_) hr)
                    · simp only [spec_runsOf.j2]
                      rw [if_pos trivial, decide_eq_false (show ¬ fr < 0 by omega)]
                    · simp only [spec_runsOf.j3]
                      rw [if_neg (by simp), if_pos trivial, w64n x (by omega)]
                  · have hv := (hb hx16).symm
                    rw [← h1]
                    show acc ++ rowRest g y (x + 1) fr = acc ++ rowRest g y x fr
                    unfold rowRest
                    rw [if_neg (by omega), if_neg (by omega), endAt_step g y x hx16 hv]
                | false =>
                  refine ⟨(acc ++ [⟨(y : Int), fr, (x : Int)⟩], -1), fun r hr => ?_, ?_, by simp; omega, .inl rfl⟩
                  · refine Ev.step (f := fun k => spec_runsOf.j3 k (tab g) acc (y : Int) fr (x : Int) false false) (fun k => ?_) (Ev.step (fun k => ?_) hr)
                    · simp only [spec_runsOf.j2]; simp
                    · simp only [spec_runsOf.j3]
                      rw [if_neg (by simp), if_neg (by simp), if_pos (by omega), if_pos (by omega), w64n x (by omega)]
                  · rw [← h1]
                    show acc ++ [⟨(y : Int), fr, (x : Int)⟩] ++ rowRest g y (x + 1) (-1) = acc ++ rowRest g y x fr
                    unfold rowRest
                    have hst : endAt g y (16 - x) x = x := endAt_stop g y x (by
                      by_cases c : x < 16
                      · right; exact (hb c).symm
                      · left; omega)
                    rw [if_pos (by omega), if_neg (by omega), hst]
                    simp
            by_cases hx16 : x < 16
            · obtain ⟨s', e1, e2⟩ := j3 (g (y * 16 + x)) (fun _ => rfl) (fun c => by omega)
              refine ⟨s', fun r hr => ?_, e2, rfl⟩
              refine Ev.step (fun k => ?_) (e1 r hr)
              simp only [spec_runsOf.l1]
              have e3 : wrap64 (wrap64 ((y : Int) * 16) + (x : Int)) = ((y * 16 + x : Nat) : Int) := by
                rw [w64 (x := (y : Int) * 16) (by omega) (by omega), w64 (x := (y : Int) * 16 + (x : Int)) (by omega) (by omega)]; omega
              rw [if_pos (by omega), if_pos (by omega), e3, if_pos (by omega), tab_length, if_pos (by omega), tab_get g _ (by omega)]
            · obtain ⟨s', e1, e2⟩ := j3 false (fun c => by omega) (fun _ => rfl)
              refine ⟨s', fun r hr => ?_, e2, rfl⟩
              refine Ev.step (fun k => ?_) (e1 r hr)
              simp only [spec_runsOf.l1]
              rw [if_pos (by omega), if_neg (by omega)])
          (by
            intro q hq
            obtain ⟨acc, fr⟩ := q
            obtain ⟨h1, h2, h3⟩ := hq
            simp only at h1 h2 h3
            have hf : fr = -1 := by omega
            subst hf
            have he : acc = runsTo g (y + 1) := by
              rw [← h1]
              unfold rowRest
              rw [if_pos (by omega), scan_end g y 17 (by omega), List.append_nil]
            refine Ev.step (fun k => ?_) (hnext acc he (by omega))
            simp only [spec_runsOf.l1]
            rw [if_neg (by omega), w64n y (by omega)])
          17 0 (s, -1) (by omega) ⟨by
            unfold rowRest
            rw [if_pos (by omega), hs.1, ← runsTo_succ], by have := hs.2; simp only; omega, .inl rfl⟩
        exact h
      have hlen : (runsTo g (y + 1)).length ≤ 17 * (y + 1) := by
        rw [runsTo_succ, List.length_append]
        have hsc : ∀ d x, 17 ≤ x + d → (scanRow g y x).length ≤ 17 - x := by
          intro d
          induction d with
          | zero => intro x hx; rw [scan_end g y x (by omega)]; simp
          | succ d ih =>
            intro x hx
            by_cases h16 : x < 16
            · cases hv : g (y * 16 + x) with
              | true =>
                have := endAt_ge g y (16 - x) x
                rw [scan_true g y x h16 hv, List.length_cons]
                have := ih (endAt g y (16 - x) x + 1) (by omega)
                omega
              | false =>
                rw [scan_false g y x h16 hv]
                have := ih (x + 1) (by omega)
                omega
            · rw [scan_end g y x (by omega)]; simp
        have h1 := hsc 17 0 (by omega)
        have h2 := hs.2
        rw [hs.1] at h2
        omega
      refine ⟨runsTo g (y + 1), fun r hr => ?_, ⟨rfl, hlen⟩, rfl⟩
      refine Ev.step (fun k => ?_) (inner r (fun acc ha _ => by rw [ha]; exact hr))
      simp only [spec_runsOf.l0]
      rw [if_pos (by omega)])
    (by
      intro s hs
      refine Ev.step (f := fun _ => some s) (fun k => ?_) (ev_val (Ev.now s) hs.1)
      simp only [spec_runsOf.l0]
      rw [if_neg (by omega)])
    16 0 [] (by omega) ⟨by simp [runsTo], by simp⟩
  exact key
end Go.Proofs.Ytfgeickfheogoaa.Pure

/- (impl.grid).has: whether a pixel, which may be anywhere, is in a grid. -/
namespace Go.Proofs.Ytfgeickfheogoaa.Q
open Go.RowKit Go.Proofs.YtfgeickfheogoaaW.PrintWords Go.Proofs.YtfgeickfheogoaaW.PrintLast Go.Proofs.YtfgeickfheogoaaW.PrintMore
attribute [local go_sem] max2_int min2_int max_two min_two max_three min_three max_four min_four
set_option linter.unusedVariables false
set_option linter.unusedSimpArgs false

def hasP (g : Nat → Bool) (x y : Int) : Bool := decide (x ≥ 0) && decide (x < 16) && decide (y ≥ 0) && decide (y < 16) && g (y.toNat * 16 + x.toNat)

set_option maxHeartbeats 2000000 in
set_option maxRecDepth 100000 in
theorem has_calls (g : Nat → Bool) (x y : Int) (w : World) :
    Calls Try.prog 60 #[.agg (gc g), .int .i64 x, .int .i64 y] w fun e w' => e = .returned (.bool (hasP g x y)) ∧ Below w.heap.size w w' := by
  have hB := Aside0.mk (below_alloc (Below.refl w.heap.size w) (.cells (gc g) 66))
  have hgs := gc_size g
  by_cases h1 : x ≥ 0
  · have d1 : decide (0 ≤ x) = true := by simpa using h1
    by_cases h2 : x < 16
    · have d2 : decide (x < 16) = true := by simpa using h2
      by_cases h3 : y ≥ 0
      · have d3 : decide (0 ≤ y) = true := by simpa using h3
        by_cases h4 : y < 16
        · have d4 : decide (y < 16) = true := by simpa using h4
          obtain ⟨x, rfl⟩ := Int.eq_ofNat_of_zero_le h1
          obtain ⟨y, rfl⟩ := Int.eq_ofNat_of_zero_le h3
          have hE := Aside0.mk (show hasP g (x : Int) (y : Int) = g (y * 16 + x) by simp [hasP]; omega)
          have hc := (GridAt.new w g).cell (y * 16 + x) (by omega)
          go_enter Try.func60, Try.ntmps60
          go_wp2
          go_ret
          exact ⟨by rw [hE.out]; rfl, hB.out⟩
        · have d4 : decide (y < 16) = false := by simpa using h4
          have hE := Aside0.mk (show hasP g x y = false by simp [hasP, h4])
          go_enter Try.func60, Try.ntmps60
          go_wp2
          go_ret
          exact ⟨by rw [hE.out]; rfl, hB.out⟩
      · have d3 : decide (0 ≤ y) = false := by simpa using h3
        have hE := Aside0.mk (show hasP g x y = false by simp [hasP, h3])
        go_enter Try.func60, Try.ntmps60
        go_wp2
        go_ret
        exact ⟨by rw [hE.out]; rfl, hB.out⟩
    · have d2 : decide (x < 16) = false := by simpa using h2
      have hE := Aside0.mk (show hasP g x y = false by simp [hasP, h2])
      go_enter Try.func60, Try.ntmps60
      go_wp2
      go_ret
      exact ⟨by rw [hE.out]; rfl, hB.out⟩
  · have d1 : decide (0 ≤ x) = false := by simpa using h1
    have hE := Aside0.mk (show hasP g x y = false by simp [hasP, h1])
    go_enter Try.func60, Try.ntmps60
    go_wp2
    go_ret
    exact ⟨by rw [hE.out]; rfl, hB.out⟩
end Go.Proofs.Ytfgeickfheogoaa.Q

/- Pixels that are connected in a grid: what a search finds that begins at one of them. -/
namespace Go.Proofs.Ytfgeickfheogoaa.Q
open Go.RowKit Go.Proofs.YtfgeickfheogoaaW.PrintWords Go.Proofs.YtfgeickfheogoaaW.PrintLast Go.Proofs.YtfgeickfheogoaaW.PrintMore
attribute [local go_sem] max2_int min2_int max_two min_two max_three min_three max_four min_four
set_option linter.unusedVariables false
set_option linter.unusedSimpArgs false

/-- q and r are neighbours in a row or a column. -/
def Adj (q r : Nat) : Prop := (r = q + 1 ∧ q % 16 < 15) ∨ (q = r + 1 ∧ r % 16 < 15) ∨ r = q + 16 ∨ q = r + 16
inductive Reach (g : Nat → Bool) (s : Nat) : Nat → Prop
  | here : Reach g s s
  | step (q r : Nat) : Reach g s q → Adj q r → r < 256 → g r = true → Reach g s r
/-- The pixels that are connected with pixel s. -/
noncomputable def comp (g : Nat → Bool) (s q : Nat) : Bool := @decide (Reach g s q) (Classical.propDecidable _)
theorem comp_iff (g : Nat → Bool) (s q : Nat) : comp g s q = true ↔ Reach g s q := by
  unfold comp
  exact @decide_eq_true_iff _ (Classical.propDecidable _)
/-- A search from s: what has been seen, what is still to be looked at, and the neighbours of p that are still to be looked at. -/
structure Mid (g : Nat → Bool) (s : Nat) (out : Nat → Bool) (todo : List Nat) (p : Nat) (pend : List (Int × Int)) : Prop where
  start : out s = true
  reach : ∀ q, q < 256 → out q = true → Reach g s q
  todo_ok : ∀ q, q ∈ todo → q < 256 ∧ out q = true
  cur : p < 256 ∧ out p = true
  done : ∀ q r, q < 256 → r < 256 → out q = true → Adj q r → g r = true → out r = true ∨ q ∈ todo ∨ (q = p ∧ (((r % 16 : Nat) : Int), ((r / 16 : Nat) : Int)) ∈ pend)
theorem mid_init (g : Nat → Bool) (s : Nat) (hs : s < 256) : Mid g s (fun q => decide (q = s)) [s] s [] where
  start := by simp
  reach := fun q _ h => by
    have : q = s := by simpa using h
    subst this; exact .here
  todo_ok := fun q h => by
    have : q = s := by simpa using h
    subst this; exact ⟨hs, by simp⟩
  cur := ⟨hs, by simp⟩
  done := fun q r _ _ h _ _ => by
    have : q = s := by simpa using h
    right; left; simp [this]
theorem mid_pop {g : Nat → Bool} {s : Nat} {out : Nat → Bool} {todo todo' : List Nat} {p p0 : Nat} {pend : List (Int × Int)} (h : Mid g s out todo p0 []) (hp : p ∈ todo) (h1 : ∀ q, q ∈ todo → q = p ∨ q ∈ todo') (h2 : ∀ q, q ∈ todo' → q ∈ todo)
    (h3 : ∀ r, r < 256 → Adj p r → (((r % 16 : Nat) : Int), ((r / 16 : Nat) : Int)) ∈ pend) : Mid g s out todo' p pend where
  start := h.start
  reach := h.reach
  todo_ok := fun q hq => h.todo_ok q (h2 q hq)
  cur := h.todo_ok p hp
  done := fun q r hq hr ho ha hg => by
    rcases h.done q r hq hr ho ha hg with c | c | c
    · exact .inl c
    · rcases h1 q c with e | e
      · subst e; exact .inr (.inr ⟨rfl, h3 r hr ha⟩)
      · exact .inr (.inl e)
    · cases c.2
theorem hasP_iff (g : Nat → Bool) (x y : Int) : hasP g x y = true ↔ 0 ≤ x ∧ x < 16 ∧ 0 ≤ y ∧ y < 16 ∧ g (y.toNat * 16 + x.toNat) = true := by
  simp [hasP, and_assoc]
theorem hasP_nat (g : Nat → Bool) (r : Nat) (hr : r < 256) : hasP g ((r % 16 : Nat) : Int) ((r / 16 : Nat) : Int) = g r := by
  have e : r / 16 * 16 + r % 16 = r := by omega
  rw [Bool.eq_iff_iff, hasP_iff, Int.toNat_natCast, Int.toNat_natCast, e]
  constructor
  · intro h; exact h.2.2.2.2
  · intro h; exact ⟨by omega, by omega, by omega, by omega, h⟩
theorem mid_skip {g : Nat → Bool} {s : Nat} {out : Nat → Bool} {todo : List Nat} {p : Nat} {x y : Int} {pend : List (Int × Int)} (h : Mid g s out todo p ((x, y) :: pend)) (hc : hasP g x y = false ∨ out (y.toNat * 16 + x.toNat) = true) : Mid g s out todo p pend where
  start := h.start
  reach := h.reach
  todo_ok := h.todo_ok
  cur := h.cur
  done := fun q r hq hr ho ha hg => by
    rcases h.done q r hq hr ho ha hg with c | c | ⟨c1, c2⟩
    · exact .inl c
    · exact .inr (.inl c)
    · rcases List.mem_cons.1 c2 with e | e
      · injection e with e1 e2
        subst e1 e2
        rcases hc with hc | hc
        · rw [hasP_nat g r hr, hg] at hc; cases hc
        · rw [Int.toNat_natCast, Int.toNat_natCast, show r / 16 * 16 + r % 16 = r by omega] at hc
          exact .inl hc
      · exact .inr (.inr ⟨c1, e⟩)
theorem mid_push {g : Nat → Bool} {s : Nat} {out : Nat → Bool} {todo todo' : List Nat} {p : Nat} {x y : Int} {pend : List (Int × Int)} (h : Mid g s out todo p ((x, y) :: pend)) (hc : hasP g x y = true) (ha0 : Adj p (y.toNat * 16 + x.toNat))
    (h1 : ∀ q, q ∈ todo' → q = y.toNat * 16 + x.toNat ∨ q ∈ todo) (h2 : ∀ q, q ∈ todo → q ∈ todo') (h3 : y.toNat * 16 + x.toNat ∈ todo') : Mid g s (fun q => if q = y.toNat * 16 + x.toNat then true else out q) todo' p pend := by
  have hx := (hasP_iff g x y).1 hc
  refine ⟨?_, ?_, ?_, ?_, ?_⟩
  · show (if s = _ then true else out s) = true
    rw [h.start]; split <;> rfl
  · intro q hq ho
    by_cases e : q = y.toNat * 16 + x.toNat
    · subst e
      exact .step p _ (h.reach p h.cur.1 h.cur.2) ha0 hq hx.2.2.2.2
    · rw [if_neg e] at ho
      exact h.reach q hq ho
  · intro q hq
    rcases h1 q hq with e | e
    · subst e; exact ⟨by omega, by simp⟩
    · have := h.todo_ok q e
      refine ⟨this.1, ?_⟩
      rw [this.2]; split <;> rfl
  · refine ⟨h.cur.1, ?_⟩
    rw [h.cur.2]; split <;> rfl
  · intro q r hq hr ho ha hg
    by_cases e : q = y.toNat * 16 + x.toNat
    · subst e; exact .inr (.inl h3)
    · rw [if_neg e] at ho
      rcases h.done q r hq hr ho ha hg with c | c | ⟨c1, c2⟩
      · left; rw [c]; split <;> rfl
      · exact .inr (.inl (h2 q c))
      · rcases List.mem_cons.1 c2 with e | e
        · left
          injection e with e1 e2
          subst e1 e2
          rw [Int.toNat_natCast, Int.toNat_natCast, if_pos (by omega)]
        · exact .inr (.inr ⟨c1, e⟩)
theorem mid_end {g : Nat → Bool} {s : Nat} (hs : s < 256) {out : Nat → Bool} {p : Nat} (h : Mid g s out [] p []) (q : Nat) (hq : q < 256) : out q = comp g s q := by
  rw [Bool.eq_iff_iff, comp_iff]
  constructor
  · exact h.reach q hq
  · intro hr
    have key : ∀ q, Reach g s q → q < 256 ∧ out q = true := by
      intro q hr
      induction hr with
      | here => exact ⟨hs, h.start⟩
      | step q r _ ha hr hg ih =>
        refine ⟨hr, ?_⟩
        rcases h.done q r ih.1 hr ih.2 ha hg with c | c | ⟨_, c⟩
        · exact c
        · cases c
        · cases c
    exact (key q hr).2
/-- how much has not been seen -/
def unseen (out : Nat → Bool) : Nat := (List.range 256).countP fun q => !out q
theorem unseen_set (out : Nat → Bool) (p : Nat) (hp : p < 256) (h : out p = false) : unseen (fun q => if q = p then true else out q) + 1 = unseen out := by
  unfold unseen
  have key : ∀ (l : List Nat), l.Nodup → p ∈ l → l.countP (fun q => !(if q = p then true else out q)) + 1 = l.countP (fun q => !out q) := by
    intro l
    induction l with
    | nil => intro _ h; cases h
    | cons a l ih =>
      intro hn hm
      rw [List.countP_cons, List.countP_cons]
      by_cases e : a = p
      · subst e
        have hne : ∀ q ∈ l, (!(if q = a then true else out q)) = !out q := by
          intro q hq
          have : q ≠ a := fun e => (List.nodup_cons.1 hn).1 (e ▸ hq)
          rw [if_neg this]
        have hcc : l.countP (fun q => !(if q = a then true else out q)) = l.countP (fun q => !out q) := List.countP_congr (fun q hq => by rw [hne q hq])
        rw [hcc]
        simp [h]
      · have hm' : p ∈ l := by
          rcases List.mem_cons.1 hm with e' | e'
          · exact absurd e'.symm e
          · exact e'
        have := ih (List.nodup_cons.1 hn).2 hm'
        rw [if_neg e]
        omega
  exact key (List.range 256) List.nodup_range (by simpa using hp)
theorem nb_adj (p : Nat) (hp : p < 256) (x y : Int) (h0 : 0 ≤ x) (h1 : x < 16) (h2 : 0 ≤ y) (h3 : y < 16)
    (h : (x = ((p % 16 : Nat) : Int) - 1 ∧ y = ((p / 16 : Nat) : Int)) ∨ (x = ((p % 16 : Nat) : Int) + 1 ∧ y = ((p / 16 : Nat) : Int)) ∨ (x = ((p % 16 : Nat) : Int) ∧ y = ((p / 16 : Nat) : Int) - 1) ∨ (x = ((p % 16 : Nat) : Int) ∧ y = ((p / 16 : Nat) : Int) + 1)) :
    Adj p (y.toNat * 16 + x.toNat) := by
  unfold Adj
  omega
theorem adj_nb (p r : Nat) (hp : p < 256) (hr : r < 256) (h : Adj p r) :
    (((r % 16 : Nat) : Int) = ((p % 16 : Nat) : Int) - 1 ∧ ((r / 16 : Nat) : Int) = ((p / 16 : Nat) : Int)) ∨ (((r % 16 : Nat) : Int) = ((p % 16 : Nat) : Int) + 1 ∧ ((r / 16 : Nat) : Int) = ((p / 16 : Nat) : Int)) ∨ (((r % 16 : Nat) : Int) = ((p % 16 : Nat) : Int) ∧ ((r / 16 : Nat) : Int) = ((p / 16 : Nat) : Int) - 1) ∨ (((r % 16 : Nat) : Int) = ((p % 16 : Nat) : Int) ∧ ((r / 16 : Nat) : Int) = ((p / 16 : Nat) : Int) + 1) := by
  unfold Adj at h
  omega
end Go.Proofs.Ytfgeickfheogoaa.Q

/- impl.neighbours: the four neighbours of a pixel. -/
namespace Go.Proofs.Ytfgeickfheogoaa.Q
open Go.RowKit Go.Proofs.YtfgeickfheogoaaW.PrintWords Go.Proofs.YtfgeickfheogoaaW.PrintLast Go.Proofs.YtfgeickfheogoaaW.PrintMore
attribute [local go_sem] max2_int min2_int max_two min_two max_three min_three max_four min_four
set_option linter.unusedVariables false
set_option linter.unusedSimpArgs false
open Go.Proofs.Ytfgeickfheogoaa.Pure

/-- neighbour i of a pixel, which may be anywhere -/
def nbI (x y : Int) (i : Nat) : Int × Int := match i with
  | 0 => (x - 1, y)
  | 1 => (x + 1, y)
  | 2 => (x, y - 1)
  | _ => (x, y + 1)
/-- whether the neighbours before i all have what h says -/
def nbAll (h : Int → Int → Bool) (x y : Int) : Bool := h (x - 1) y && h (x + 1) y && h x (y - 1) && h x (y + 1)
def nbAny (h : Int → Int → Bool) (x y : Int) : Bool := h (x - 1) y || h (x + 1) y || h x (y - 1) || h x (y + 1)
theorem nbAll_no {h : Int → Int → Bool} {x y : Int} (i : Nat) (hi : i < 4) (hf : h (nbI x y i).1 (nbI x y i).2 = false) : nbAll h x y = false := by
  unfold nbAll
  obtain rfl | rfl | rfl | rfl : i = 0 ∨ i = 1 ∨ i = 2 ∨ i = 3 := by omega
  all_goals (simp only [nbI] at hf; rw [hf]; simp)
theorem nbAll_yes {h : Int → Int → Bool} {x y : Int} (ha : ∀ i, i < 4 → h (nbI x y i).1 (nbI x y i).2 = true) : nbAll h x y = true := by
  unfold nbAll
  have h0 := ha 0 (by omega)
  have h1 := ha 1 (by omega)
  have h2 := ha 2 (by omega)
  have h3 := ha 3 (by omega)
  simp only [nbI] at h0 h1 h2 h3
  rw [h0, h1, h2, h3]; rfl
theorem nbAny_yes {h : Int → Int → Bool} {x y : Int} (i : Nat) (hi : i < 4) (hf : h (nbI x y i).1 (nbI x y i).2 = true) : nbAny h x y = true := by
  unfold nbAny
  obtain rfl | rfl | rfl | rfl : i = 0 ∨ i = 1 ∨ i = 2 ∨ i = 3 := by omega
  all_goals (simp only [nbI] at hf; rw [hf]; simp)
theorem nbAny_no {h : Int → Int → Bool} {x y : Int} (ha : ∀ i, i < 4 → h (nbI x y i).1 (nbI x y i).2 = false) : nbAny h x y = false := by
  unfold nbAny
  have h0 := ha 0 (by omega)
  have h1 := ha 1 (by omega)
  have h2 := ha 2 (by omega)
  have h3 := ha 3 (by omega)
  simp only [nbI] at h0 h1 h2 h3
  rw [h0, h1, h2, h3]; rfl
def nbv (x y : Int) : Value := .agg #[.int .i64 (x - 1), .int .i64 y, .int .i64 (x + 1), .int .i64 y, .int .i64 x, .int .i64 (y - 1), .int .i64 x, .int .i64 (y + 1)]

set_option maxHeartbeats 4000000 in
set_option maxRecDepth 100000 in
theorem neighbours_calls (x y : Int) (h0 : 0 ≤ x ∧ x < 16 ∧ 0 ≤ y ∧ y < 16) (w : World) :
    Calls Try.prog 84 #[.int .i64 x, .int .i64 y] w fun e w' => e = .returned (nbv x y) ∧ Below w.heap.size w w' := by
  have e1 : wrap64 (x - 1) = x - 1 := w64 (by omega) (by omega)
  have e2 : wrap64 (x + 1) = x + 1 := w64 (by omega) (by omega)
  have e3 : wrap64 (y - 1) = y - 1 := w64 (by omega) (by omega)
  have e4 : wrap64 (y + 1) = y + 1 := w64 (by omega) (by omega)
  have hB := Aside0.mk (below_alloc (Below.refl w.heap.size w) (.cells #[.int .i64 0, .int .i64 0, .int .i64 0, .int .i64 0, .int .i64 0, .int .i64 0, .int .i64 0, .int .i64 0] 90))
  clear h0
  go_enter Try.func84, Try.ntmps84
  go_wp2
  refine bodyPost_ret (results_cell_row rfl _ _ w.heap.size 90 #[.int .i64 (x - 1), .int .i64 y, .int .i64 (x + 1), .int .i64 y, .int .i64 x, .int .i64 (y - 1), .int .i64 x, .int .i64 (y + 1)] (0, 0) (.array 4 89) rfl (blk_new _ _) Try.underlying90 rfl (by kernel_rfl)) rfl ?_
  exact ⟨rfl, below_alloc (Below.refl _ _) _⟩
end Go.Proofs.Ytfgeickfheogoaa.Q

/- impl.gridBy: the grid of the pixels for which a function value's answer is true. -/
namespace Go.Proofs.Ytfgeickfheogoaa.Q
open Go.RowKit Go.Proofs.YtfgeickfheogoaaW.PrintWords Go.Proofs.YtfgeickfheogoaaW.PrintLast Go.Proofs.YtfgeickfheogoaaW.PrintMore
attribute [local go_sem] max2_int min2_int max_two min_two max_three min_three max_four min_four
set_option linter.unusedVariables false
set_option linter.unusedSimpArgs false

/-- what has been asked so far -/
def gso (so : Nat → Nat → Bool) (n : Nat) : Nat → Bool := fun p => decide (p < n) && so (p % 16) (p / 16)

theorem gso_step (so : Nat → Nat → Bool) (x y : Nat) (hx : x < 16) (p : Nat) : (if p = y * 16 + x then so x y else gso so (16 * y + x) p) = gso so (16 * y + (x + 1)) p := by
  unfold gso
  by_cases e : p = y * 16 + x
  · rw [if_pos e]
    have h1 : p % 16 = x := by omega
    have h2 : p / 16 = y := by omega
    rw [h1, h2]
    simp; omega
  · rw [if_neg e]
    congr 1
    rw [decide_eq_decide]
    omega
set_option maxHeartbeats 8000000 in
set_option maxRecDepth 100000 in
theorem gridBy_calls (q : Nat) (lb : Array Value) (so : Nat → Nat → Bool) (w : World)
    (eg : ∀ args W, (callFunc q args).run Try.prog W = .ok (.enter q args) W)
    (hp : ∀ (W : World) (x y : Nat), x < 16 → y < 16 → Below w.heap.size w W → Calls Try.prog q (#[.int .i64 (x : Int), .int .i64 (y : Int)] ++ lb) W fun e W' => e = .returned (.bool (so x y)) ∧ Below W.heap.size W W') :
    Calls Try.prog 62 #[.func (.func q) #[] lb] w fun e w' => e = .returned (.agg (gc (gso so 256))) ∧ Below w.heap.size w w' := by
  have HP := Aside0.mk hp
  clear hp
  have z0 := zero66
  have hst := run_storeCells_new (P := Try.prog) (w.alloc (.cells (gc fun _ => false) 66)) 66 (gc fun _ => false) (gc fun _ => false) (by rw [gc_size]; exact info66) rfl (gc_one _)
  simp only [World.size_alloc] at hst
  go_enter Try.func62, Try.ntmps62
  go_wp2
  go_loopw [7] (fun v7 W => ∃ y : Nat, v7 = .int .i64 y ∧ y ≤ 16 ∧ GridAt W (w.heap.size + 1) (gso so (16 * y)) ∧ GridAt W w.heap.size (fun _ => false) ∧ Aside0 (Below w.heap.size w W)) (fun v7 _ => 16 - (intOf v7).toNat)
  case atStart =>
    refine ⟨0, rfl, by omega, ?_, (GridAt.new _ _).alloc _, ⟨((Below.refl _ _).alloc (Nat.le_refl _) _).alloc (by simp) _⟩⟩
    have h := GridAt.new (w.alloc (.cells (gc fun _ => false) 66)) (fun _ => false)
    simp only [World.size_alloc] at h
    exact h.congr (fun p _ => by simp [gso])
  case round =>
    obtain ⟨y, rfl, hy, hg, hg2, hb⟩ := hrel
    clear hst
    by_cases hlt : y < 16
    · have hdy : decide ((y : Int) < 16) = true := by simp; omega
      go_wp2
      go_loopw [10] (fun v10 W => ∃ x : Nat, v10 = .int .i64 x ∧ x ≤ 16 ∧ GridAt W (w.heap.size + 1) (gso so (16 * y + x)) ∧ GridAt W w.heap.size (fun _ => false) ∧ Aside0 (Below w.heap.size w W)) (fun v10 _ => 16 - (intOf v10).toNat)
      case atStart => exact ⟨0, rfl, by omega, hg, hg2, hb⟩
      case round =>
        clear hg hg2 hb
        obtain ⟨x, rfl, hx, hg, hg2, hb⟩ := hrel
        by_cases hlx : x < 16
        · have hdx : decide ((x : Int) < 16) = true := by simp; omega
          go_wp2
          go_region_with (first | (go_at_fn q; refine (HP.out _ x y hlx hlt (by first | exact hb.out | exact below_drew hb.out | exact pw_below_drewN hb.out _)).mono ?_; rintro e w' ⟨rfl, hb2⟩; have hgn := Aside0.mk (blk_below (w := wr.drew) hg hb2); have hgn2 := Aside0.mk (blk_below (w := wr.drew) hg2 hb2); have hbn := Aside0.mk (below_then (below_drew hb.out) (below_drew hb.out).size hb2); have hc1 := GridAt.cell hgn.out (y * 16 + x) (by omega); have hf1 := GridAt.free hgn.out (y * 16 + x); clear hb2))
          all_goals
            go_wp2
            go_roundw
            case rel => exact ⟨x + 1, by go_num, by omega, (GridAt.set_ hgn.out (y * 16 + x) (so x y)).congr (fun p _ => gso_step so x y hlx p), blk_far hgn2.out (by simp) _, ⟨below_set hbn.out (by omega)⟩⟩
            case measure => simp [intOf]; omega
        · have hdx : decide ((x : Int) < 16) = false := by simp; omega
          have hx16 : x = 16 := by omega
          subst hx16
          go_wp2
          go_roundw
          case rel => exact ⟨y + 1, by go_num, by omega, hg.congr (fun p _ => by rw [Nat.mul_add]), hg2, hb⟩
          case measure => simp [intOf]; omega
    · have hdy : decide ((y : Int) < 16) = false := by simp; omega
      have hy16 : y = 16 := by omega
      subst hy16
      have hg' : wr.heap[w.heap.size + 1]? = some (.cells (gc (gso so 256)) 66 (0, 0)) := hg
      have hg2' : wr.heap[w.heap.size]? = some (.cells (gc fun _ => false) 66 (0, 0)) := hg2
      have hi : (Try.prog.info? 66).map (·.size) = some (gc (gso so 256)).size := by rw [gc_size]; exact info66
      have hold : (gc fun _ => false).size = (gc (gso so 256)).size := by rw [gc_size, gc_size]
      have h1 := gc_one (gso so 256)
      go_wp2_with (first
        | ((with_reducible refine gate_dst (N := 23) rfl ?_); refine wpList_load_row rfl 66 (.tmp 3) rfl (w.heap.size + 1) rfl 66 (gc (gso so 256)) (0, 0) (.array 16 64) hg' underlying66 rfl hi ?_)
        | ((with_reducible refine wpList_store_row rfl 66 (.tmp 2) (.tmp 23) rfl w.heap.size (gc (gso so 256)) ?hx ?hy 66 (gc fun _ => false) hg2' hi hold h1 ?_); (case hx => rfl); (case hy => rfl)))
      refine bodyPost_ret (results_cell_row rfl _ _ w.heap.size 66 (gc (gso so 256)) (0, 0) (.array 16 64) rfl (hg2.setRow (gso so 256)) underlying66 rfl hi) rfl ?_
      exact ⟨rfl, below_setRow hb.out (Nat.le_refl _) _⟩
end Go.Proofs.Ytfgeickfheogoaa.Q

/- Neighbours of a grid's pixels, by their numbers; a loop that fills a grid. -/
namespace Go.Proofs.Ytfgeickfheogoaa.Pure
open Go.RowKit Go.Proofs.Ytfgeickfheogoaa.Q Go.Proofs.YtfgeickfheogoaaW.PrintWords Go.Proofs.YtfgeickfheogoaaW.PrintLast Go.Proofs.YtfgeickfheogoaaW.PrintMore
set_option linter.unusedVariables false
set_option linter.unusedSimpArgs false

theorem gso_at (so : Nat → Nat → Bool) (p : Nat) (h : p < 256) : gso so 256 p = so (p % 16) (p / 16) := by
  unfold gso; rw [decide_eq_true h, Bool.true_and]
def rdT (g : Nat → Bool) (i : Int) : Bool := rdOf false (tab g) i
theorem rdT_nat (g : Nat → Bool) (i : Nat) (h : i < 256) : rdT g (i : Int) = g i := tab_get g i h
theorem hasP_no (g : Nat → Bool) (x y : Int) (h : x < 0 ∨ 16 ≤ x ∨ y < 0 ∨ 16 ≤ y) : hasP g x y = false := by
  rw [← Bool.not_eq_true, hasP_iff]; omega
/-- A loop that writes all cells of a grid, one after the other. -/
theorem fill_ev {ρ : Type} (f : Nat → Bool) (init : Nat → Bool) (L : Nat → List Bool → Nat → Option ρ) (r : ρ)
    (step : ∀ k s p, p < 256 → s = tab (fun q => if q < p then f q else init q) → L (k + 1) s p = L k (s.set p (f p)) (p + 1))
    (last : Ev (fun k => L k (tab f) 256) r) : Ev (fun k => L k (tab init) 0) r := by
  have key := ev_up 256 (fun k p s => L k s p) (fun p s => s = tab (fun q => if q < p then f q else init q)) (fun _ _ => r)
    (by
      intro p s hp hs
      right
      refine ⟨s.set p (f p), fun k => step k s p hp hs, ?_, rfl⟩
      rw [hs, tab_set]
      apply tab_congr
      intro q _
      by_cases e : q = p
      · subst e; rw [if_pos rfl, if_pos (by omega)]
      · rw [if_neg e]
        by_cases h1 : q < p
        · rw [if_pos h1, if_pos (by omega)]
        · rw [if_neg h1, if_neg (by omega)])
    (by
      intro s hs
      have : s = tab f := by rw [hs]; exact tab_congr (fun q hq => by rw [if_pos hq])
      rw [this]; exact last)
    256 0 (tab init) (by omega) (tab_congr (fun q _ => by rw [if_neg (by omega)]))
  exact key
end Go.Proofs.Ytfgeickfheogoaa.Pure

/- Rows of bools that hold a grid: what is made, read and written. -/
namespace Go.Proofs.Ytfgeickfheogoaa.Q
open Go.RowKit Go.Proofs.YtfgeickfheogoaaW.PrintWords Go.Proofs.YtfgeickfheogoaaW.PrintLast Go.Proofs.YtfgeickfheogoaaW.PrintMore
attribute [local go_sem] max2_int min2_int max_two min_two max_three min_three max_four min_four
set_option linter.unusedVariables false
set_option linter.unusedSimpArgs false
open Go.Proofs.Ytfgeickfheogoaa.Pure

theorem tabR_cell {W : World} {base g cap : Nat} {ok : Nat → Prop} {f : Nat → Bool} (h : Kd.bool.R 4 W base ok (.slice (some ⟨g, 0, none⟩) 256 cap) (tab f)) (i : Nat) (hi : i < 256) : W.cell? ⟨g, i, none⟩ = some (.bool (f i)) ∧ W.frozen? ⟨g, i, none⟩ = false := by
  have hl := tab_length f
  have h' : Kd.bool.R 4 W base ok (.slice (some ⟨g, 0, none⟩) (tab f).length cap) (tab f) := by rw [hl]; exact h
  have := Kd.R_cell false h' (i : Int) (by omega) (by omega)
  rw [Int.toNat_natCast, tab_get f i hi] at this
  exact this
theorem tabR_put {W : World} {base g cap : Nat} {ok : Nat → Prop} {f : Nat → Bool} (h : Kd.bool.R 4 W base ok (.slice (some ⟨g, 0, none⟩) 256 cap) (tab f)) (i : Nat) (b : Bool) : Kd.bool.R 4 (W.setCell ⟨g, i, none⟩ (.bool b)) base ok (.slice (some ⟨g, 0, none⟩) 256 cap) (tab fun p => if p = i then b else f p) := by
  have hl := tab_length f
  have h' : Kd.bool.R 4 W base ok (.slice (some ⟨g, 0, none⟩) (tab f).length cap) (tab f) := by rw [hl]; exact h
  have := (Kd.R_put h' (i : Int) b).1
  rw [Int.toNat_natCast, tab_set, hl] at this
  exact this
theorem tab_of (l : List Bool) (h : l.length = 256) : l = tab (fun p => l.getD p false) := by
  refine List.ext_getElem (by rw [tab_length]; exact h) (fun j h1 h2 => ?_)
  simp [tab, List.getD_eq_getElem?_getD, List.getElem?_eq_getElem h1]
theorem tabC_at {W : World} {A : Option Addr} {f : Nat → Bool} (h : Kd.bool.C W A 256 (tab f)) : ∃ ad, A = some ad ∧ ∀ i : Int, 0 ≤ i → i < 256 → W.cell? (ad.add i.toNat) = some (.bool (rdT f i)) := by
  obtain ⟨ad, rfl, _⟩ := Kd.at_bool h 0 (by omega) (by omega)
  refine ⟨ad, rfl, fun i h0 h1 => ?_⟩
  obtain ⟨ad', e, hc⟩ := Kd.at_bool h i h0 (by omega)
  cases e
  exact hc
end Go.Proofs.Ytfgeickfheogoaa.Q

/- spec.spreadFrom: the pixels that are connected with a pixel, as the reference has them. -/
namespace Go.Proofs.Ytfgeickfheogoaa.Q
open Go.RowKit Go.Proofs.YtfgeickfheogoaaW.PrintWords Go.Proofs.YtfgeickfheogoaaW.PrintLast Go.Proofs.YtfgeickfheogoaaW.PrintMore
attribute [local go_sem] max2_int min2_int max_two min_two max_three min_three max_four min_four
set_option linter.unusedVariables false
set_option linter.unusedSimpArgs false
open Go.Proofs.Ytfgeickfheogoaa.Pure

noncomputable def spec_spreadFrom.f (l0 : List Bool) (a1 : Int) : Option (List Bool) := if l0.length = 256 ∧ 0 ≤ a1 ∧ a1 < 256 then some (tab (comp (fun p => l0.getD p false) a1.toNat)) else none

/-- neighbour d of the pixel in column x and row y, in the reference's order -/
def nbS (x y d : Nat) : Int × Int := match d with
  | 0 => ((x : Int) + 1, (y : Int))
  | 1 => ((x : Int) - 1, (y : Int))
  | 2 => ((x : Int), (y : Int) + 1)
  | _ => ((x : Int), (y : Int) - 1)
def nbListS (x y : Nat) : List (Int × Int) := [nbS x y 0, nbS x y 1, nbS x y 2, nbS x y 3]
theorem nbListS_drop (x y d : Nat) (h : d < 4) : (nbListS x y).drop d = ((nbS x y d).1, (nbS x y d).2) :: (nbListS x y).drop (d + 1) := by
  obtain rfl | rfl | rfl | rfl : d = 0 ∨ d = 1 ∨ d = 2 ∨ d = 3 := by omega
  all_goals rfl
theorem nbS_mem (x y p r : Nat) (hx : x = p % 16) (hy : y = p / 16) (hp : p < 256) (hr : r < 256) (ha : Adj p r) : (((r % 16 : Nat) : Int), ((r / 16 : Nat) : Int)) ∈ nbListS x y := by
  have := adj_nb p r hp hr ha
  unfold nbListS nbS
  simp only [List.mem_cons, Prod.mk.injEq]
  omega
def lenT : Value → Nat
  | .slice _ n _ => n
  | _ => 0
def outT (W : World) (B : Nat) (p : Nat) : Bool := match W.cell? ⟨B, p, none⟩ with
  | some (.bool b) => b
  | _ => false
theorem unseen_outT {W : World} {base B cap : Nat} {ok : Nat → Prop} {o : Nat → Bool} (h : Kd.bool.R 4 W base ok (.slice (some ⟨B, 0, none⟩) 256 cap) (tab o)) : unseen (outT W B) = unseen o := by
  unfold unseen
  refine List.countP_congr (fun p hp => ?_)
  have : outT W B p = o p := by unfold outT; rw [(tabR_cell h p (by simpa using hp)).1]
  rw [this]

set_option maxHeartbeats 12000000 in
set_option maxRecDepth 100000 in
theorem spread_calls (A0 : Option Addr) (c0 : Nat) (g : Nat → Bool) (s : Nat) (hs : s < 256) (w : World) (hr0 : Kd.bool.C w A0 256 (tab g)) (hc0 : 256 ≤ c0) :
    Calls Try.prog 89 #[.slice A0 256 c0, .int .i64 (s : Int)] w fun e w' => ∃ v0_ : Value, e = .returned (v0_) ∧ Kd.bool.R 4 w' w.heap.size (fun _ => True) v0_ (tab (comp g s)) ∧ Below w.heap.size w w' := by
  obtain ⟨ad, rfl, HRD⟩ := tabC_at hr0
  have HR := Aside0.mk hr0
  have HRC := Aside0.mk (fun (W : World) (hb : Below w.heap.size w W) (i : Int) (h0 : 0 ≤ i) (h1 : i < 256) => show W.cell? (ad.add i.toNat) = some (.bool (rdT g i)) from by
    obtain ⟨ad', e, h⟩ := tabC_at (Kd.C_below HR.out hb)
    cases e
    exact h i h0 h1)
  clear hr0 HRD
  go_enter Try.func89, Try.ntmps89
  go_wp2_with (first
    | ((with_reducible refine gate_dst (N := 16) rfl ?_); refine Kd.R_make Kd.bool w.heap.size 4 rfl (N := 16) rfl 62 _ _ rfl 256 rfl rfl Try.underlying62 (.bool false) 1 info4 rfl (by decide) (by omega) false (ok := fun _ => True) (okp := fun _ => True) rfl (fun _ hk => hk) trivial (by omega) (by omega) (Below.refl _ _) (Nat.le_refl _) ?_; intro v1 w1 ho1 hb1 hg1 hn1; clear hg1 hn1; rw [show (256 : Int).toNat = 256 from rfl, tab_false] at ho1; obtain ⟨B, cap, hv1, hBb, hBl, _⟩ := Kd.R_form ho1 (by rw [tab_length]; omega); rw [tab_length] at hv1; subst hv1; have HO1 := Aside0.mk ho1; have HB1 := Aside0.mk hb1; have HBL := Aside0.mk hBb; clear ho1 hb1 hBb hBl)
    | ((with_reducible refine gate_dst (N := 18) rfl ?_); refine Kd.R_lit (Kd.int .i64) w.heap.size 3 ?hg (N := 18) ?hd (xs := [(s : Int)]) (inner := [.int .i64 (s : Int)]) (ok := fun _ => True) (okp := fun _ => True) ?hr ?hp (fun _ hk => hk) trivial HB1.out HB1.out.size (by simp) ?_; (case hd => rfl); (case hg => rfl); (case hr => first | (go_simp; done) | (go_simp; rfl)); (case hp => exact Reps.snoc (Reps.none _ _) rfl rfl); intro v2 w2 ho2 hb2 hg2 hn2; have HS2 := Aside0.mk ho2; have HB2 := Aside0.mk hb2; have HO2 := Aside0.mk (Kd.R_grown HO1.out hg2 (fun _ _ => by simp)); have hcs := (tabR_cell HO2.out s hs).1; have hcf := (tabR_cell HO2.out s hs).2; clear ho2 hb2 hg2 hn2))
  obtain ⟨cc, hcc⟩ := Kd.R_typed HO2.out B rfl
  have HS3 := Aside0.mk (Kd.R_set HS2.out hcc (by decide) s (.bool true))
  have HO3 := Aside0.mk (tabR_put HO2.out s true)
  have HB3 := Aside0.mk (below_set (g := B) (j := s) (v := .bool true) HB2.out HBL.out)
  have hinit : (fun p => if p = s then true else false) = fun q => decide (q = s) := by
    funext p
    by_cases e : p = s
    · rw [if_pos e, decide_eq_true e]
    · rw [if_neg e, decide_eq_false e]
  have HM0 := Aside0.mk (mid_init g s hs)
  rw [← hinit] at HM0
  have HU0 : unseen (fun p => if p = s then true else false) + 1 = 256 := by
    have h := unseen_set (fun _ => false) s hs rfl
    have h2 : unseen (fun _ => false) = 256 := by simp [unseen]
    rw [h2] at h
    exact h
  clear hinit hcc hcs hcf HO2 HS2 HB2 HO1 HB1
  go_loopw [6] (fun v6 W => ∃ (out : Nat → Bool) (st : List Nat) (p0 : Nat), Aside0 (Kd.R (Kd.int .i64) 3 W w.heap.size (fun _ => True) v6 (st.map fun (n : Nat) => (n : Int)) ∧ Kd.bool.R 4 W w.heap.size (fun _ => True) (.slice (some ⟨B, 0, none⟩) 256 cap) (tab out) ∧ Below w.heap.size w W) ∧
    Aside0 (Mid g s out st p0 [] ∧ st.length + unseen out ≤ 256)) (fun v6 W => 2 * unseen (outT W B) + lenT v6)
  case atStart => exact ⟨_, [s], s, ⟨HS3.out, HO3.out, HB3.out⟩, ⟨HM0.out, by simp only [List.length_singleton]; omega⟩⟩
  case round =>
    obtain ⟨out, st, p0, HW, HM⟩ := hrel
    clear HM0 HU0 HS3 HO3 HB3
    obtain ⟨wo, rfl⟩ : ∃ wo : World, wo = wr := ⟨_, rfl⟩
    have HMS := Aside0.mk (unseen_outT HW.out.2.1)
    by_cases hz : st = []
    · subst hz
      have hl := Kd.Q_slice (Kd.Q_of_R HW.out.1)
      obtain ⟨A6, c6, h6, _⟩ := hl
      simp only [List.map_nil, List.length_nil] at h6
      subst h6
      have HE := Aside0.mk (tab_congr (mid_end hs HM.out.1))
      go_wp2
      go_ret
      exact ⟨_, rfl, by rw [← HE.out]; exact HW.out.2.1, HW.out.2.2⟩
    · obtain ⟨st', p, rfl⟩ : ∃ st' p, st = st' ++ [p] := ⟨st.dropLast, st.getLast hz, (List.dropLast_concat_getLast hz).symm⟩
      clear hz
      obtain ⟨g6, c6, h6, hgb, hgl, _⟩ := Kd.R_form HW.out.1 (by simp)
      obtain ⟨m, hm⟩ : ∃ m, m = st'.length := ⟨_, rfl⟩
      have hlen : ((st' ++ [p]).map fun (n : Nat) => (n : Int)).length = m + 1 := by simp [hm]
      rw [hlen] at h6
      subst h6
      have hR6 := HW.out.1
      have hR6' : Kd.R (Kd.int .i64) 3 wo w.heap.size (fun _ => True) (.slice (some ⟨g6, 0, none⟩) ((st' ++ [p]).map fun (n : Nat) => (n : Int)).length c6) ((st' ++ [p]).map fun (n : Nat) => (n : Int)) := by rw [hlen]; exact hR6
      have hcell := (Kd.R_cell (0 : Int) hR6' (m : Int) (by omega) (by rw [hlen]; omega)).1
      have hrd : rdOf (0 : Int) ((st' ++ [p]).map fun (n : Nat) => (n : Int)) (m : Int) = (p : Int) := by
        unfold rdOf
        rw [Int.toNat_natCast, List.getD_eq_getElem?_getD, hm]
        simp
      rw [hrd, Int.toNat_natCast] at hcell
      have hcell' : wo.cell? ⟨g6, m, none⟩ = some (.int .i64 (p : Int)) := hcell
      have HT6 := Aside0.mk (show Kd.R (Kd.int .i64) 3 wo w.heap.size (fun _ => True) (.slice (some ⟨g6, 0, none⟩) m c6) (st'.map fun (n : Nat) => (n : Int)) from by
        have h := Kd.R_take (m := m) hR6' (by rw [hlen]; omega)
        rw [List.map_append, List.take_left' (by simp [hm])] at h
        exact h)
      have hp256 : p < 256 := (HM.out.1.todo_ok p (by simp)).1
      have hmc : m + 1 ≤ c6 := (Kd.R_reads' hR6).2.1
      have hm256 : m < 256 := by have h := HM.out.2; rw [List.length_append, List.length_singleton, ← hm] at h; omega
      have HML := Aside0.mk hm
      clear hcell hrd hR6 hR6' hlen hm
      have hmp : decide ((0 : Int) < ((m + 1 : Nat) : Int)) = true := by simp
      obtain ⟨i0, hi0, _, hsz0, _⟩ := info_parts info3
      have HCUT := Aside0.mk (cut_to (P := Try.prog) 70 3 .i64 Try.underlying70 hi0 (some ⟨g6, 0, none⟩) (m + 1) c6 (m : Int) (by omega) (by omega) hmc)
      clear hi0 hsz0
      obtain ⟨x0, hx0⟩ : ∃ x0 : Nat, x0 = p % 16 := ⟨_, rfl⟩
      obtain ⟨y0, hy0⟩ : ∃ y0 : Nat, y0 = p / 16 := ⟨_, rfl⟩
      have hx16 : x0 < 16 := by omega
      have hy16 : y0 < 16 := by omega
      have HX0 := Aside0.mk (show (p : Int) % 16 = (x0 : Int) by omega)
      have HY0 := Aside0.mk (show (p : Int) / 16 = (y0 : Int) by omega)
      have HPX := Aside0.mk hx0
      have HPY := Aside0.mk hy0
      clear hx0 hy0
      go_wp2_with (first
        | ((with_reducible refine gate_dst (N := 35) rfl ?_); refine Kd.event_run (v := .slice (some ⟨g6, 0, none⟩) m c6) (w1 := wo) rfl ?hr ?_; (case hr => (have hc_ := HCUT.out wo; rw [Int.toNat_natCast] at hc_; simp [execOp, Act.eval, Instr.sliceAt, Result.andThen, hc_]))))
      rw [HX0.out, HY0.out]
      have HM1 := Aside0.mk (show Mid g s out st' p (nbListS x0 y0) from
        mid_pop HM.out.1 (p := p) (by simp) (fun q hq => by rcases List.mem_append.1 hq with h | h; exact .inr h; exact .inl (List.mem_singleton.1 h)) (fun q hq => List.mem_append_left _ hq) (fun r hr ha => nbS_mem x0 y0 p r HPX.out HPY.out hp256 hr ha))
      have HL1 := Aside0.mk (show st'.length + unseen out ≤ 256 ∧ 2 * unseen out + st'.length < 2 * unseen out + (m + 1) from by
        have h := HM.out.2
        have h2 := HML.out
        rw [List.length_append, List.length_singleton] at h
        omega)
      obtain ⟨U, hU⟩ : ∃ U, U = 2 * unseen out + (m + 1) := ⟨_, rfl⟩
      rw [← hU] at HL1
      have HUE := Aside0.mk hU
      clear hU hcell' hmp HCUT
      go_loopw [6, 11] (fun v6 v11 W => ∃ (out' : Nat → Bool) (st2 : List Nat) (d : Nat), v11 = .int .i64 d ∧ d ≤ 4 ∧ Aside0 (Kd.R (Kd.int .i64) 3 W w.heap.size (fun _ => True) v6 (st2.map fun (n : Nat) => (n : Int)) ∧ Kd.bool.R 4 W w.heap.size (fun _ => True) (.slice (some ⟨B, 0, none⟩) 256 cap) (tab out') ∧ Below w.heap.size w W) ∧
        Aside0 (Mid g s out' st2 p ((nbListS x0 y0).drop d) ∧ st2.length + unseen out' ≤ 256 ∧ 2 * unseen out' + st2.length < U)) (fun _ v11 _ => 4 - (intOf v11).toNat)
      case atStart => exact ⟨out, st', 0, rfl, by omega, ⟨HT6.out, HW.out.2.1, HW.out.2.2⟩, ⟨HM1.out, HL1.out.1, HL1.out.2⟩⟩
      case round =>
        obtain ⟨out', st2, d, rfl, hd, HV, HT⟩ := hrel
        obtain ⟨wi, rfl⟩ : ∃ wi : World, wi = wr := ⟨_, rfl⟩
        by_cases h4 : d < 4
        · have hdd : decide ((d : Int) < 4) = true := by simp; omega
          have HDR := Aside0.mk (nbListS_drop x0 y0 d h4)
          obtain rfl | rfl | rfl | rfl : d = 0 ∨ d = 1 ∨ d = 2 ∨ d = 3 := by omega
          all_goals clear h4 hd
          · have HM2 := Aside0.mk (show Mid g s out' st2 p ((((x0 : Int) + 1), (y0 : Int)) :: (nbListS x0 y0).drop (0 + 1)) from by have h := HT.out.1; rw [HDR.out] at h; exact h)
            cases hb : (decide (0 ≤ ((x0 : Int) + 1)) && decide (((x0 : Int) + 1) ≤ 15)) with
            | false =>
              have HI1 := Aside0.mk (fun W => spec_inRange.calls (((x0 : Int) + 1)) 0 15 _ W (inRange_eq' _ _ _))
              rw [hb] at HI1
              have HSK := Aside0.mk (mid_skip HM2.out (.inl (hasP_no g (((x0 : Int) + 1)) ((y0 : Int)) (by simp at hb; omega))))
              clear hb
              go_wp2_with (first
                | (go_at_call 57; (with_reducible refine (HI1.out _).mono ?_); rintro e W1 ⟨rfl, hd1⟩; have HD1 := Aside0.mk hd1.below; clear hd1))
              go_roundw
              case rel => exact ⟨out', st2, 0 + 1, by go_num, by omega, ⟨(Kd.R_below (Kd.R_alloc (Kd.R_alloc HV.out.1 _) _) HD1.out), (Kd.R_below (Kd.R_alloc (Kd.R_alloc HV.out.2.1 _) _) HD1.out), (below_then (below_alloc (below_alloc HV.out.2.2 _) _) (below_alloc (below_alloc HV.out.2.2 _) _).size HD1.out)⟩, ⟨HSK.out, HT.out.2.1, HT.out.2.2⟩⟩
              case measure => simp [intOf]
            | true =>
              have HI1 := Aside0.mk (fun W => spec_inRange.calls (((x0 : Int) + 1)) 0 15 _ W (inRange_eq' _ _ _))
              rw [hb] at HI1
              cases hb2 : (decide (0 ≤ (y0 : Int)) && decide ((y0 : Int) ≤ 15)) with
              | false =>
                exfalso
                simp at hb2
                omega
              | true =>
                have HI2 := Aside0.mk (fun W => spec_inRange.calls ((y0 : Int)) 0 15 _ W (inRange_eq' _ _ _))
                rw [hb2] at HI2
                have hbc : 0 ≤ ((x0 : Int) + 1) ∧ ((x0 : Int) + 1) < 16 ∧ 0 ≤ (y0 : Int) ∧ (y0 : Int) < 16 := by simp at hb hb2; omega
                have HQ := Aside0.mk (show ((y0 : Int)).toNat * 16 + (((x0 : Int) + 1)).toNat = (y0 * 16 + (x0 + 1)) by omega)
                have hq256 : (y0 * 16 + (x0 + 1)) < 256 := by omega
                have HBO := Aside0.mk hbc
                clear hb hb2
                clear hbc
                cases hg : g (y0 * 16 + (x0 + 1)) with
                | false =>
                  have HSK := Aside0.mk (mid_skip HM2.out (.inl (by rw [Bool.eq_false_iff]; intro h; have := ((hasP_iff g _ _).1 h).2.2.2.2; rw [HQ.out, hg] at this; cases this)))
                  go_wp2_with (first
                    | (go_at_call 57; (with_reducible refine (HI1.out _).mono ?_); rintro e W1 ⟨rfl, hd1⟩; have HD1 := Aside0.mk hd1.below; clear hd1)
                    | (go_at_call 57; (with_reducible refine (HI2.out _).mono ?_); rintro e W2 ⟨rfl, hd2⟩; have HD2 := Aside0.mk hd2.below; clear hd2; have hcg := HRC.out W2 (below_then (below_then (below_alloc (below_alloc HV.out.2.2 _) _) (below_alloc (below_alloc HV.out.2.2 _) _).size HD1.out) (below_then (below_alloc (below_alloc HV.out.2.2 _) _) (below_alloc (below_alloc HV.out.2.2 _) _).size HD1.out).size HD2.out) ((((y0 * 16 + (x0 + 1)) : Nat) : Int)) (by omega) (by omega); rw [Int.toNat_natCast, rdT_nat g _ hq256, hg] at hcg))
                  go_roundw
                  case rel => exact ⟨out', st2, 0 + 1, by go_num, by omega, ⟨(Kd.R_below (Kd.R_below (Kd.R_alloc (Kd.R_alloc HV.out.1 _) _) HD1.out) HD2.out), (Kd.R_below (Kd.R_below (Kd.R_alloc (Kd.R_alloc HV.out.2.1 _) _) HD1.out) HD2.out), (below_then (below_then (below_alloc (below_alloc HV.out.2.2 _) _) (below_alloc (below_alloc HV.out.2.2 _) _).size HD1.out) (below_then (below_alloc (below_alloc HV.out.2.2 _) _) (below_alloc (below_alloc HV.out.2.2 _) _).size HD1.out).size HD2.out)⟩, ⟨HSK.out, HT.out.2.1, HT.out.2.2⟩⟩
                  case measure => simp [intOf]
                | true =>
                  cases ho : out' (y0 * 16 + (x0 + 1)) with
                  | true =>
                    have HSK := Aside0.mk (mid_skip HM2.out (.inr (by rw [HQ.out]; exact ho)))
                    go_wp2_with (first
                      | (go_at_call 57; (with_reducible refine (HI1.out _).mono ?_); rintro e W1 ⟨rfl, hd1⟩; have HD1 := Aside0.mk hd1.below; clear hd1)
                      | (go_at_call 57; (with_reducible refine (HI2.out _).mono ?_); rintro e W2 ⟨rfl, hd2⟩; have HD2 := Aside0.mk hd2.below; clear hd2; have hcg := HRC.out W2 (below_then (below_then (below_alloc (below_alloc HV.out.2.2 _) _) (below_alloc (below_alloc HV.out.2.2 _) _).size HD1.out) (below_then (below_alloc (below_alloc HV.out.2.2 _) _) (below_alloc (below_alloc HV.out.2.2 _) _).size HD1.out).size HD2.out) ((((y0 * 16 + (x0 + 1)) : Nat) : Int)) (by omega) (by omega); rw [Int.toNat_natCast, rdT_nat g _ hq256, hg] at hcg; have hco := (tabR_cell (Kd.R_below (Kd.R_below (Kd.R_alloc (Kd.R_alloc HV.out.2.1 _) _) HD1.out) HD2.out) (y0 * 16 + (x0 + 1)) hq256).1; rw [ho] at hco; have hcf := (tabR_cell (Kd.R_below (Kd.R_below (Kd.R_alloc (Kd.R_alloc HV.out.2.1 _) _) HD1.out) HD2.out) (y0 * 16 + (x0 + 1)) hq256).2))
                    go_roundw
                    case rel => exact ⟨out', st2, 0 + 1, by go_num, by omega, ⟨(Kd.R_below (Kd.R_below (Kd.R_alloc (Kd.R_alloc HV.out.1 _) _) HD1.out) HD2.out), (Kd.R_below (Kd.R_below (Kd.R_alloc (Kd.R_alloc HV.out.2.1 _) _) HD1.out) HD2.out), (below_then (below_then (below_alloc (below_alloc HV.out.2.2 _) _) (below_alloc (below_alloc HV.out.2.2 _) _).size HD1.out) (below_then (below_alloc (below_alloc HV.out.2.2 _) _) (below_alloc (below_alloc HV.out.2.2 _) _).size HD1.out).size HD2.out)⟩, ⟨HSK.out, HT.out.2.1, HT.out.2.2⟩⟩
                    case measure => simp [intOf]
                  | false =>
                    have HPU := Aside0.mk (mid_push (todo' := st2 ++ [(y0 * 16 + (x0 + 1))]) HM2.out ((hasP_iff g _ _).2 ⟨HBO.out.1, HBO.out.2.1, HBO.out.2.2.1, HBO.out.2.2.2, by rw [HQ.out]; exact hg⟩) (nb_adj p hp256 _ _ HBO.out.1 HBO.out.2.1 HBO.out.2.2.1 HBO.out.2.2.2 (by have h1 := HPX.out; have h2 := HPY.out; omega)) (fun q hq => by rw [HQ.out]; rcases List.mem_append.1 hq with h | h; exact .inr h; exact .inl (List.mem_singleton.1 h)) (fun q hq => List.mem_append_left _ hq) (by rw [HQ.out]; simp))
                    rw [HQ.out] at HPU
                    have HUN := Aside0.mk (unseen_set out' (y0 * 16 + (x0 + 1)) hq256 ho)
                    have HXI := Aside0.mk (show ((y0 : Int) * 16 + ((x0 : Int) + 1)) = (((y0 * 16 + (x0 + 1)) : Nat) : Int) by omega)
                    go_wp2_with (first
                      | (go_at_call 57; (with_reducible refine (HI1.out _).mono ?_); rintro e W1 ⟨rfl, hd1⟩; have HD1 := Aside0.mk hd1.below; clear hd1)
                      | (go_at_call 57; (with_reducible refine (HI2.out _).mono ?_); rintro e W2 ⟨rfl, hd2⟩; have HD2 := Aside0.mk hd2.below; clear hd2; have hcg := HRC.out W2 (below_then (below_then (below_alloc (below_alloc HV.out.2.2 _) _) (below_alloc (below_alloc HV.out.2.2 _) _).size HD1.out) (below_then (below_alloc (below_alloc HV.out.2.2 _) _) (below_alloc (below_alloc HV.out.2.2 _) _).size HD1.out).size HD2.out) ((((y0 * 16 + (x0 + 1)) : Nat) : Int)) (by omega) (by omega); rw [Int.toNat_natCast, rdT_nat g _ hq256, hg] at hcg; have hco := (tabR_cell (Kd.R_below (Kd.R_below (Kd.R_alloc (Kd.R_alloc HV.out.2.1 _) _) HD1.out) HD2.out) (y0 * 16 + (x0 + 1)) hq256).1; rw [ho] at hco; have hcf := (tabR_cell (Kd.R_below (Kd.R_below (Kd.R_alloc (Kd.R_alloc HV.out.2.1 _) _) HD1.out) HD2.out) (y0 * 16 + (x0 + 1)) hq256).2; obtain ⟨cc2, hcc2⟩ := Kd.R_typed (Kd.R_below (Kd.R_below (Kd.R_alloc (Kd.R_alloc HV.out.2.1 _) _) HD1.out) HD2.out) B rfl; have HS3 := Aside0.mk (Kd.R_set (Kd.R_below (Kd.R_below (Kd.R_alloc (Kd.R_alloc HV.out.1 _) _) HD1.out) HD2.out) hcc2 (by decide) (y0 * 16 + (x0 + 1)) (.bool true)); have HO3 := Aside0.mk (tabR_put (Kd.R_below (Kd.R_below (Kd.R_alloc (Kd.R_alloc HV.out.2.1 _) _) HD1.out) HD2.out) (y0 * 16 + (x0 + 1)) true); have HB3 := Aside0.mk (below_set (g := B) (j := (y0 * 16 + (x0 + 1))) (v := .bool true) (below_then (below_then (below_alloc (below_alloc HV.out.2.2 _) _) (below_alloc (below_alloc HV.out.2.2 _) _).size HD1.out) (below_then (below_alloc (below_alloc HV.out.2.2 _) _) (below_alloc (below_alloc HV.out.2.2 _) _).size HD1.out).size HD2.out) HBL.out); clear hcc2)
                      | ((with_reducible refine gate_builtin (b := .append) (xs := #[.tmp 96, .tmp 102]) rfl ?_); at_builtin; refine Kd.R_append (Kd.int .i64) (w0 := w) w.heap.size rfl (.tmp 96) (.tmp 102) 70 3 (.int .i64 0) 8 rfl Try.underlying70 info3 rfl (by decide) (by omega) u6 (st2.map fun (n : Nat) => (n : Int)) ((y0 : Int) * 16 + ((x0 : Int) + 1)) [.int .i64 ((y0 : Int) * 16 + ((x0 : Int) + 1))] (fun _ => True) (fun _ => False) rfl ?aX ?aP (fun _ hk => hk.elim) (fun _ _ => trivial) HS3.out HB3.out HB3.out.size ?aL ?_; (case aX => first | rfl | (go_simp; done) | (simp; done) | (go_simp; rfl)); (case aP => rfl); (case aL => (have hl_ := HT.out.2.1; rw [List.length_map]; omega)); intro v7 W7 ho7 hb7 hg7 hat7; have HS7 := Aside0.mk ho7; have HB7 := Aside0.mk hb7; have HO7 := Aside0.mk (Kd.R_over HO3.out HS3.out (by decide) hg7); clear ho7 hb7 hg7 hat7))
                    go_roundw
                    case rel =>
                      refine ⟨fun p => if p = (y0 * 16 + (x0 + 1)) then true else out' p, st2 ++ [(y0 * 16 + (x0 + 1))], 0 + 1, by go_num, by omega, ⟨by have h := HS7.out; rw [HXI.out] at h; rw [List.map_append]; exact h, HO7.out, HB7.out⟩, ⟨HPU.out, ?_, ?_⟩⟩
                      · have h1 := HUN.out
                        have h2 := HT.out.2.1
                        rw [List.length_append, List.length_singleton]
                        omega
                      · have h1 := HUN.out
                        have h2 := HT.out.2.2
                        rw [List.length_append, List.length_singleton]
                        omega
                    case measure => simp [intOf]
          · have HM2 := Aside0.mk (show Mid g s out' st2 p ((((x0 : Int) - 1), (y0 : Int)) :: (nbListS x0 y0).drop (1 + 1)) from by have h := HT.out.1; rw [HDR.out] at h; exact h)
            cases hb : (decide (0 ≤ ((x0 : Int) + -1)) && decide (((x0 : Int) + -1) ≤ 15)) with
            | false =>
              have HI1 := Aside0.mk (fun W => spec_inRange.calls (((x0 : Int) + -1)) 0 15 _ W (inRange_eq' _ _ _))
              rw [hb] at HI1
              have HSK := Aside0.mk (mid_skip HM2.out (.inl (hasP_no g (((x0 : Int) - 1)) ((y0 : Int)) (by simp at hb; omega))))
              clear hb
              go_wp2_with (first
                | (go_at_call 57; (with_reducible refine (HI1.out _).mono ?_); rintro e W1 ⟨rfl, hd1⟩; have HD1 := Aside0.mk hd1.below; clear hd1))
              go_roundw
              case rel => exact ⟨out', st2, 1 + 1, by go_num, by omega, ⟨(Kd.R_below (Kd.R_alloc (Kd.R_alloc HV.out.1 _) _) HD1.out), (Kd.R_below (Kd.R_alloc (Kd.R_alloc HV.out.2.1 _) _) HD1.out), (below_then (below_alloc (below_alloc HV.out.2.2 _) _) (below_alloc (below_alloc HV.out.2.2 _) _).size HD1.out)⟩, ⟨HSK.out, HT.out.2.1, HT.out.2.2⟩⟩
              case measure => simp [intOf]
            | true =>
              have HI1 := Aside0.mk (fun W => spec_inRange.calls (((x0 : Int) + -1)) 0 15 _ W (inRange_eq' _ _ _))
              rw [hb] at HI1
              cases hb2 : (decide (0 ≤ (y0 : Int)) && decide ((y0 : Int) ≤ 15)) with
              | false =>
                exfalso
                simp at hb2
                omega
              | true =>
                have HI2 := Aside0.mk (fun W => spec_inRange.calls ((y0 : Int)) 0 15 _ W (inRange_eq' _ _ _))
                rw [hb2] at HI2
                have hbc : 0 ≤ ((x0 : Int) - 1) ∧ ((x0 : Int) - 1) < 16 ∧ 0 ≤ (y0 : Int) ∧ (y0 : Int) < 16 := by simp at hb hb2; omega
                have HQ := Aside0.mk (show ((y0 : Int)).toNat * 16 + (((x0 : Int) - 1)).toNat = ((y0 : Int) * 16 + ((x0 : Int) + -1)).toNat by omega)
                have hq256 : ((y0 : Int) * 16 + ((x0 : Int) + -1)).toNat < 256 := by omega
                have HBO := Aside0.mk hbc
                clear hb hb2
                have hx1 : 1 ≤ x0 := by omega
                clear hbc
                cases hg : g ((y0 : Int) * 16 + ((x0 : Int) + -1)).toNat with
                | false =>
                  have HSK := Aside0.mk (mid_skip HM2.out (.inl (by rw [Bool.eq_false_iff]; intro h; have := ((hasP_iff g _ _).1 h).2.2.2.2; rw [HQ.out, hg] at this; cases this)))
                  go_wp2_with (first
                    | (go_at_call 57; (with_reducible refine (HI1.out _).mono ?_); rintro e W1 ⟨rfl, hd1⟩; have HD1 := Aside0.mk hd1.below; clear hd1)
                    | (go_at_call 57; (with_reducible refine (HI2.out _).mono ?_); rintro e W2 ⟨rfl, hd2⟩; have HD2 := Aside0.mk hd2.below; clear hd2; have hcg := HRC.out W2 (below_then (below_then (below_alloc (below_alloc HV.out.2.2 _) _) (below_alloc (below_alloc HV.out.2.2 _) _).size HD1.out) (below_then (below_alloc (below_alloc HV.out.2.2 _) _) (below_alloc (below_alloc HV.out.2.2 _) _).size HD1.out).size HD2.out) (((((y0 : Int) * 16 + ((x0 : Int) + -1)).toNat : Nat) : Int)) (by omega) (by omega); rw [Int.toNat_natCast, rdT_nat g _ hq256, hg] at hcg))
                  go_roundw
                  case rel => exact ⟨out', st2, 1 + 1, by go_num, by omega, ⟨(Kd.R_below (Kd.R_below (Kd.R_alloc (Kd.R_alloc HV.out.1 _) _) HD1.out) HD2.out), (Kd.R_below (Kd.R_below (Kd.R_alloc (Kd.R_alloc HV.out.2.1 _) _) HD1.out) HD2.out), (below_then (below_then (below_alloc (below_alloc HV.out.2.2 _) _) (below_alloc (below_alloc HV.out.2.2 _) _).size HD1.out) (below_then (below_alloc (below_alloc HV.out.2.2 _) _) (below_alloc (below_alloc HV.out.2.2 _) _).size HD1.out).size HD2.out)⟩, ⟨HSK.out, HT.out.2.1, HT.out.2.2⟩⟩
                  case measure => simp [intOf]
                | true =>
                  cases ho : out' ((y0 : Int) * 16 + ((x0 : Int) + -1)).toNat with
                  | true =>
                    have HSK := Aside0.mk (mid_skip HM2.out (.inr (by rw [HQ.out]; exact ho)))
                    go_wp2_with (first
                      | (go_at_call 57; (with_reducible refine (HI1.out _).mono ?_); rintro e W1 ⟨rfl, hd1⟩; have HD1 := Aside0.mk hd1.below; clear hd1)
                      | (go_at_call 57; (with_reducible refine (HI2.out _).mono ?_); rintro e W2 ⟨rfl, hd2⟩; have HD2 := Aside0.mk hd2.below; clear hd2; have hcg := HRC.out W2 (below_then (below_then (below_alloc (below_alloc HV.out.2.2 _) _) (below_alloc (below_alloc HV.out.2.2 _) _).size HD1.out) (below_then (below_alloc (below_alloc HV.out.2.2 _) _) (below_alloc (below_alloc HV.out.2.2 _) _).size HD1.out).size HD2.out) (((((y0 : Int) * 16 + ((x0 : Int) + -1)).toNat : Nat) : Int)) (by omega) (by omega); rw [Int.toNat_natCast, rdT_nat g _ hq256, hg] at hcg; have hco := (tabR_cell (Kd.R_below (Kd.R_below (Kd.R_alloc (Kd.R_alloc HV.out.2.1 _) _) HD1.out) HD2.out) ((y0 : Int) * 16 + ((x0 : Int) + -1)).toNat hq256).1; rw [ho] at hco; have hcf := (tabR_cell (Kd.R_below (Kd.R_below (Kd.R_alloc (Kd.R_alloc HV.out.2.1 _) _) HD1.out) HD2.out) ((y0 : Int) * 16 + ((x0 : Int) + -1)).toNat hq256).2))
                    go_roundw
                    case rel => exact ⟨out', st2, 1 + 1, by go_num, by omega, ⟨(Kd.R_below (Kd.R_below (Kd.R_alloc (Kd.R_alloc HV.out.1 _) _) HD1.out) HD2.out), (Kd.R_below (Kd.R_below (Kd.R_alloc (Kd.R_alloc HV.out.2.1 _) _) HD1.out) HD2.out), (below_then (below_then (below_alloc (below_alloc HV.out.2.2 _) _) (below_alloc (below_alloc HV.out.2.2 _) _).size HD1.out) (below_then (below_alloc (below_alloc HV.out.2.2 _) _) (below_alloc (below_alloc HV.out.2.2 _) _).size HD1.out).size HD2.out)⟩, ⟨HSK.out, HT.out.2.1, HT.out.2.2⟩⟩
                    case measure => simp [intOf]
                  | false =>
                    have HPU := Aside0.mk (mid_push (todo' := st2 ++ [((y0 : Int) * 16 + ((x0 : Int) + -1)).toNat]) HM2.out ((hasP_iff g _ _).2 ⟨HBO.out.1, HBO.out.2.1, HBO.out.2.2.1, HBO.out.2.2.2, by rw [HQ.out]; exact hg⟩) (nb_adj p hp256 _ _ HBO.out.1 HBO.out.2.1 HBO.out.2.2.1 HBO.out.2.2.2 (by have h1 := HPX.out; have h2 := HPY.out; omega)) (fun q hq => by rw [HQ.out]; rcases List.mem_append.1 hq with h | h; exact .inr h; exact .inl (List.mem_singleton.1 h)) (fun q hq => List.mem_append_left _ hq) (by rw [HQ.out]; simp))
                    rw [HQ.out] at HPU
                    have HUN := Aside0.mk (unseen_set out' ((y0 : Int) * 16 + ((x0 : Int) + -1)).toNat hq256 ho)
                    have HXI := Aside0.mk (show ((y0 : Int) * 16 + ((x0 : Int) + -1)) = ((((y0 : Int) * 16 + ((x0 : Int) + -1)).toNat : Nat) : Int) by omega)
                    go_wp2_with (first
                      | (go_at_call 57; (with_reducible refine (HI1.out _).mono ?_); rintro e W1 ⟨rfl, hd1⟩; have HD1 := Aside0.mk hd1.below; clear hd1)
                      | (go_at_call 57; (with_reducible refine (HI2.out _).mono ?_); rintro e W2 ⟨rfl, hd2⟩; have HD2 := Aside0.mk hd2.below; clear hd2; have hcg := HRC.out W2 (below_then (below_then (below_alloc (below_alloc HV.out.2.2 _) _) (below_alloc (below_alloc HV.out.2.2 _) _).size HD1.out) (below_then (below_alloc (below_alloc HV.out.2.2 _) _) (below_alloc (below_alloc HV.out.2.2 _) _).size HD1.out).size HD2.out) (((((y0 : Int) * 16 + ((x0 : Int) + -1)).toNat : Nat) : Int)) (by omega) (by omega); rw [Int.toNat_natCast, rdT_nat g _ hq256, hg] at hcg; have hco := (tabR_cell (Kd.R_below (Kd.R_below (Kd.R_alloc (Kd.R_alloc HV.out.2.1 _) _) HD1.out) HD2.out) ((y0 : Int) * 16 + ((x0 : Int) + -1)).toNat hq256).1; rw [ho] at hco; have hcf := (tabR_cell (Kd.R_below (Kd.R_below (Kd.R_alloc (Kd.R_alloc HV.out.2.1 _) _) HD1.out) HD2.out) ((y0 : Int) * 16 + ((x0 : Int) + -1)).toNat hq256).2; obtain ⟨cc2, hcc2⟩ := Kd.R_typed (Kd.R_below (Kd.R_below (Kd.R_alloc (Kd.R_alloc HV.out.2.1 _) _) HD1.out) HD2.out) B rfl; have HS3 := Aside0.mk (Kd.R_set (Kd.R_below (Kd.R_below (Kd.R_alloc (Kd.R_alloc HV.out.1 _) _) HD1.out) HD2.out) hcc2 (by decide) ((y0 : Int) * 16 + ((x0 : Int) + -1)).toNat (.bool true)); have HO3 := Aside0.mk (tabR_put (Kd.R_below (Kd.R_below (Kd.R_alloc (Kd.R_alloc HV.out.2.1 _) _) HD1.out) HD2.out) ((y0 : Int) * 16 + ((x0 : Int) + -1)).toNat true); have HB3 := Aside0.mk (below_set (g := B) (j := ((y0 : Int) * 16 + ((x0 : Int) + -1)).toNat) (v := .bool true) (below_then (below_then (below_alloc (below_alloc HV.out.2.2 _) _) (below_alloc (below_alloc HV.out.2.2 _) _).size HD1.out) (below_then (below_alloc (below_alloc HV.out.2.2 _) _) (below_alloc (below_alloc HV.out.2.2 _) _).size HD1.out).size HD2.out) HBL.out); clear hcc2)
                      | ((with_reducible refine gate_builtin (b := .append) (xs := #[.tmp 96, .tmp 102]) rfl ?_); at_builtin; refine Kd.R_append (Kd.int .i64) (w0 := w) w.heap.size rfl (.tmp 96) (.tmp 102) 70 3 (.int .i64 0) 8 rfl Try.underlying70 info3 rfl (by decide) (by omega) u6 (st2.map fun (n : Nat) => (n : Int)) ((y0 : Int) * 16 + ((x0 : Int) + -1)) [.int .i64 ((y0 : Int) * 16 + ((x0 : Int) + -1))] (fun _ => True) (fun _ => False) rfl ?aX ?aP (fun _ hk => hk.elim) (fun _ _ => trivial) HS3.out HB3.out HB3.out.size ?aL ?_; (case aX => first | rfl | (go_simp; done) | (simp; done) | (go_simp; rfl)); (case aP => rfl); (case aL => (have hl_ := HT.out.2.1; rw [List.length_map]; omega)); intro v7 W7 ho7 hb7 hg7 hat7; have HS7 := Aside0.mk ho7; have HB7 := Aside0.mk hb7; have HO7 := Aside0.mk (Kd.R_over HO3.out HS3.out (by decide) hg7); clear ho7 hb7 hg7 hat7))
                    go_roundw
                    case rel =>
                      refine ⟨fun p => if p = ((y0 : Int) * 16 + ((x0 : Int) + -1)).toNat then true else out' p, st2 ++ [((y0 : Int) * 16 + ((x0 : Int) + -1)).toNat], 1 + 1, by go_num, by omega, ⟨by have h := HS7.out; rw [HXI.out] at h; rw [List.map_append]; exact h, HO7.out, HB7.out⟩, ⟨HPU.out, ?_, ?_⟩⟩
                      · have h1 := HUN.out
                        have h2 := HT.out.2.1
                        rw [List.length_append, List.length_singleton]
                        omega
                      · have h1 := HUN.out
                        have h2 := HT.out.2.2
                        rw [List.length_append, List.length_singleton]
                        omega
                    case measure => simp [intOf]
          · have HM2 := Aside0.mk (show Mid g s out' st2 p (((x0 : Int), ((y0 : Int) + 1)) :: (nbListS x0 y0).drop (2 + 1)) from by have h := HT.out.1; rw [HDR.out] at h; exact h)
            cases hb : (decide (0 ≤ (x0 : Int)) && decide ((x0 : Int) ≤ 15)) with
            | false =>
              exfalso
              simp at hb
              omega
            | true =>
              have HI1 := Aside0.mk (fun W => spec_inRange.calls ((x0 : Int)) 0 15 _ W (inRange_eq' _ _ _))
              rw [hb] at HI1
              cases hb2 : (decide (0 ≤ ((y0 : Int) + 1)) && decide (((y0 : Int) + 1) ≤ 15)) with
              | false =>
                have HI2 := Aside0.mk (fun W => spec_inRange.calls (((y0 : Int) + 1)) 0 15 _ W (inRange_eq' _ _ _))
                rw [hb2] at HI2
                have HSK := Aside0.mk (mid_skip HM2.out (.inl (hasP_no g ((x0 : Int)) (((y0 : Int) + 1)) (by simp at hb2; omega))))
                clear hb hb2
                go_wp2_with (first
                  | (go_at_call 57; (with_reducible refine (HI1.out _).mono ?_); rintro e W1 ⟨rfl, hd1⟩; have HD1 := Aside0.mk hd1.below; clear hd1)
                  | (go_at_call 57; (with_reducible refine (HI2.out _).mono ?_); rintro e W2 ⟨rfl, hd2⟩; have HD2 := Aside0.mk hd2.below; clear hd2))
                go_roundw
                case rel => exact ⟨out', st2, 2 + 1, by go_num, by omega, ⟨(Kd.R_below (Kd.R_below (Kd.R_alloc (Kd.R_alloc HV.out.1 _) _) HD1.out) HD2.out), (Kd.R_below (Kd.R_below (Kd.R_alloc (Kd.R_alloc HV.out.2.1 _) _) HD1.out) HD2.out), (below_then (below_then (below_alloc (below_alloc HV.out.2.2 _) _) (below_alloc (below_alloc HV.out.2.2 _) _).size HD1.out) (below_then (below_alloc (below_alloc HV.out.2.2 _) _) (below_alloc (below_alloc HV.out.2.2 _) _).size HD1.out).size HD2.out)⟩, ⟨HSK.out, HT.out.2.1, HT.out.2.2⟩⟩
                case measure => simp [intOf]
              | true =>
                have HI2 := Aside0.mk (fun W => spec_inRange.calls (((y0 : Int) + 1)) 0 15 _ W (inRange_eq' _ _ _))
                rw [hb2] at HI2
                have hbc : 0 ≤ (x0 : Int) ∧ (x0 : Int) < 16 ∧ 0 ≤ ((y0 : Int) + 1) ∧ ((y0 : Int) + 1) < 16 := by simp at hb hb2; omega
                have HQ := Aside0.mk (show (((y0 : Int) + 1)).toNat * 16 + ((x0 : Int)).toNat = ((y0 + 1) * 16 + x0) by omega)
                have hq256 : ((y0 + 1) * 16 + x0) < 256 := by omega
                have HBO := Aside0.mk hbc
                clear hb hb2
                clear hbc
                cases hg : g ((y0 + 1) * 16 + x0) with
                | false =>
                  have HSK := Aside0.mk (mid_skip HM2.out (.inl (by rw [Bool.eq_false_iff]; intro h; have := ((hasP_iff g _ _).1 h).2.2.2.2; rw [HQ.out, hg] at this; cases this)))
                  go_wp2_with (first
                    | (go_at_call 57; (with_reducible refine (HI1.out _).mono ?_); rintro e W1 ⟨rfl, hd1⟩; have HD1 := Aside0.mk hd1.below; clear hd1)
                    | (go_at_call 57; (with_reducible refine (HI2.out _).mono ?_); rintro e W2 ⟨rfl, hd2⟩; have HD2 := Aside0.mk hd2.below; clear hd2; have hcg := HRC.out W2 (below_then (below_then (below_alloc (below_alloc HV.out.2.2 _) _) (below_alloc (below_alloc HV.out.2.2 _) _).size HD1.out) (below_then (below_alloc (below_alloc HV.out.2.2 _) _) (below_alloc (below_alloc HV.out.2.2 _) _).size HD1.out).size HD2.out) (((((y0 + 1) * 16 + x0) : Nat) : Int)) (by omega) (by omega); rw [Int.toNat_natCast, rdT_nat g _ hq256, hg] at hcg))
                  go_roundw
                  case rel => exact ⟨out', st2, 2 + 1, by go_num, by omega, ⟨(Kd.R_below (Kd.R_below (Kd.R_alloc (Kd.R_alloc HV.out.1 _) _) HD1.out) HD2.out), (Kd.R_below (Kd.R_below (Kd.R_alloc (Kd.R_alloc HV.out.2.1 _) _) HD1.out) HD2.out), (below_then (below_then (below_alloc (below_alloc HV.out.2.2 _) _) (below_alloc (below_alloc HV.out.2.2 _) _).size HD1.out) (below_then (below_alloc (below_alloc HV.out.2.2 _) _) (below_alloc (below_alloc HV.out.2.2 _) _).size HD1.out).size HD2.out)⟩, ⟨HSK.out, HT.out.2.1, HT.out.2.2⟩⟩
                  case measure => simp [intOf]
                | true =>
                  cases ho : out' ((y0 + 1) * 16 + x0) with
                  | true =>
                    have HSK := Aside0.mk (mid_skip HM2.out (.inr (by rw [HQ.out]; exact ho)))
                    go_wp2_with (first
                      | (go_at_call 57; (with_reducible refine (HI1.out _).mono ?_); rintro e W1 ⟨rfl, hd1⟩; have HD1 := Aside0.mk hd1.below; clear hd1)
                      | (go_at_call 57; (with_reducible refine (HI2.out _).mono ?_); rintro e W2 ⟨rfl, hd2⟩; have HD2 := Aside0.mk hd2.below; clear hd2; have hcg := HRC.out W2 (below_then (below_then (below_alloc (below_alloc HV.out.2.2 _) _) (below_alloc (below_alloc HV.out.2.2 _) _).size HD1.out) (below_then (below_alloc (below_alloc HV.out.2.2 _) _) (below_alloc (below_alloc HV.out.2.2 _) _).size HD1.out).size HD2.out) (((((y0 + 1) * 16 + x0) : Nat) : Int)) (by omega) (by omega); rw [Int.toNat_natCast, rdT_nat g _ hq256, hg] at hcg; have hco := (tabR_cell (Kd.R_below (Kd.R_below (Kd.R_alloc (Kd.R_alloc HV.out.2.1 _) _) HD1.out) HD2.out) ((y0 + 1) * 16 + x0) hq256).1; rw [ho] at hco; have hcf := (tabR_cell (Kd.R_below (Kd.R_below (Kd.R_alloc (Kd.R_alloc HV.out.2.1 _) _) HD1.out) HD2.out) ((y0 + 1) * 16 + x0) hq256).2))
                    go_roundw
                    case rel => exact ⟨out', st2, 2 + 1, by go_num, by omega, ⟨(Kd.R_below (Kd.R_below (Kd.R_alloc (Kd.R_alloc HV.out.1 _) _) HD1.out) HD2.out), (Kd.R_below (Kd.R_below (Kd.R_alloc (Kd.R_alloc HV.out.2.1 _) _) HD1.out) HD2.out), (below_then (below_then (below_alloc (below_alloc HV.out.2.2 _) _) (below_alloc (below_alloc HV.out.2.2 _) _).size HD1.out) (below_then (below_alloc (below_alloc HV.out.2.2 _) _) (below_alloc (below_alloc HV.out.2.2 _) _).size HD1.out).size HD2.out)⟩, ⟨HSK.out, HT.out.2.1, HT.out.2.2⟩⟩
                    case measure => simp [intOf]
                  | false =>
                    have HPU := Aside0.mk (mid_push (todo' := st2 ++ [((y0 + 1) * 16 + x0)]) HM2.out ((hasP_iff g _ _).2 ⟨HBO.out.1, HBO.out.2.1, HBO.out.2.2.1, HBO.out.2.2.2, by rw [HQ.out]; exact hg⟩) (nb_adj p hp256 _ _ HBO.out.1 HBO.out.2.1 HBO.out.2.2.1 HBO.out.2.2.2 (by have h1 := HPX.out; have h2 := HPY.out; omega)) (fun q hq => by rw [HQ.out]; rcases List.mem_append.1 hq with h | h; exact .inr h; exact .inl (List.mem_singleton.1 h)) (fun q hq => List.mem_append_left _ hq) (by rw [HQ.out]; simp))
                    rw [HQ.out] at HPU
                    have HUN := Aside0.mk (unseen_set out' ((y0 + 1) * 16 + x0) hq256 ho)
                    have HXI := Aside0.mk (show (((y0 : Int) + 1) * 16 + (x0 : Int)) = ((((y0 + 1) * 16 + x0) : Nat) : Int) by omega)
                    go_wp2_with (first
                      | (go_at_call 57; (with_reducible refine (HI1.out _).mono ?_); rintro e W1 ⟨rfl, hd1⟩; have HD1 := Aside0.mk hd1.below; clear hd1)
                      | (go_at_call 57; (with_reducible refine (HI2.out _).mono ?_); rintro e W2 ⟨rfl, hd2⟩; have HD2 := Aside0.mk hd2.below; clear hd2; have hcg := HRC.out W2 (below_then (below_then (below_alloc (below_alloc HV.out.2.2 _) _) (below_alloc (below_alloc HV.out.2.2 _) _).size HD1.out) (below_then (below_alloc (below_alloc HV.out.2.2 _) _) (below_alloc (below_alloc HV.out.2.2 _) _).size HD1.out).size HD2.out) (((((y0 + 1) * 16 + x0) : Nat) : Int)) (by omega) (by omega); rw [Int.toNat_natCast, rdT_nat g _ hq256, hg] at hcg; have hco := (tabR_cell (Kd.R_below (Kd.R_below (Kd.R_alloc (Kd.R_alloc HV.out.2.1 _) _) HD1.out) HD2.out) ((y0 + 1) * 16 + x0) hq256).1; rw [ho] at hco; have hcf := (tabR_cell (Kd.R_below (Kd.R_below (Kd.R_alloc (Kd.R_alloc HV.out.2.1 _) _) HD1.out) HD2.out) ((y0 + 1) * 16 + x0) hq256).2; obtain ⟨cc2, hcc2⟩ := Kd.R_typed (Kd.R_below (Kd.R_below (Kd.R_alloc (Kd.R_alloc HV.out.2.1 _) _) HD1.out) HD2.out) B rfl; have HS3 := Aside0.mk (Kd.R_set (Kd.R_below (Kd.R_below (Kd.R_alloc (Kd.R_alloc HV.out.1 _) _) HD1.out) HD2.out) hcc2 (by decide) ((y0 + 1) * 16 + x0) (.bool true)); have HO3 := Aside0.mk (tabR_put (Kd.R_below (Kd.R_below (Kd.R_alloc (Kd.R_alloc HV.out.2.1 _) _) HD1.out) HD2.out) ((y0 + 1) * 16 + x0) true); have HB3 := Aside0.mk (below_set (g := B) (j := ((y0 + 1) * 16 + x0)) (v := .bool true) (below_then (below_then (below_alloc (below_alloc HV.out.2.2 _) _) (below_alloc (below_alloc HV.out.2.2 _) _).size HD1.out) (below_then (below_alloc (below_alloc HV.out.2.2 _) _) (below_alloc (below_alloc HV.out.2.2 _) _).size HD1.out).size HD2.out) HBL.out); clear hcc2)
                      | ((with_reducible refine gate_builtin (b := .append) (xs := #[.tmp 96, .tmp 102]) rfl ?_); at_builtin; refine Kd.R_append (Kd.int .i64) (w0 := w) w.heap.size rfl (.tmp 96) (.tmp 102) 70 3 (.int .i64 0) 8 rfl Try.underlying70 info3 rfl (by decide) (by omega) u6 (st2.map fun (n : Nat) => (n : Int)) (((y0 : Int) + 1) * 16 + (x0 : Int)) [.int .i64 (((y0 : Int) + 1) * 16 + (x0 : Int))] (fun _ => True) (fun _ => False) rfl ?aX ?aP (fun _ hk => hk.elim) (fun _ _ => trivial) HS3.out HB3.out HB3.out.size ?aL ?_; (case aX => first | rfl | (go_simp; done) | (simp; done) | (go_simp; rfl)); (case aP => rfl); (case aL => (have hl_ := HT.out.2.1; rw [List.length_map]; omega)); intro v7 W7 ho7 hb7 hg7 hat7; have HS7 := Aside0.mk ho7; have HB7 := Aside0.mk hb7; have HO7 := Aside0.mk (Kd.R_over HO3.out HS3.out (by decide) hg7); clear ho7 hb7 hg7 hat7))
                    go_roundw
                    case rel =>
                      refine ⟨fun p => if p = ((y0 + 1) * 16 + x0) then true else out' p, st2 ++ [((y0 + 1) * 16 + x0)], 2 + 1, by go_num, by omega, ⟨by have h := HS7.out; rw [HXI.out] at h; rw [List.map_append]; exact h, HO7.out, HB7.out⟩, ⟨HPU.out, ?_, ?_⟩⟩
                      · have h1 := HUN.out
                        have h2 := HT.out.2.1
                        rw [List.length_append, List.length_singleton]
                        omega
                      · have h1 := HUN.out
                        have h2 := HT.out.2.2
                        rw [List.length_append, List.length_singleton]
                        omega
                    case measure => simp [intOf]
          · have HM2 := Aside0.mk (show Mid g s out' st2 p (((x0 : Int), ((y0 : Int) - 1)) :: (nbListS x0 y0).drop (3 + 1)) from by have h := HT.out.1; rw [HDR.out] at h; exact h)
            cases hb : (decide (0 ≤ (x0 : Int)) && decide ((x0 : Int) ≤ 15)) with
            | false =>
              exfalso
              simp at hb
              omega
            | true =>
              have HI1 := Aside0.mk (fun W => spec_inRange.calls ((x0 : Int)) 0 15 _ W (inRange_eq' _ _ _))
              rw [hb] at HI1
              cases hb2 : (decide (0 ≤ ((y0 : Int) + -1)) && decide (((y0 : Int) + -1) ≤ 15)) with
              | false =>
                have HI2 := Aside0.mk (fun W => spec_inRange.calls (((y0 : Int) + -1)) 0 15 _ W (inRange_eq' _ _ _))
                rw [hb2] at HI2
                have HSK := Aside0.mk (mid_skip HM2.out (.inl (hasP_no g ((x0 : Int)) (((y0 : Int) - 1)) (by simp at hb2; omega))))
                clear hb hb2
                go_wp2_with (first
                  | (go_at_call 57; (with_reducible refine (HI1.out _).mono ?_); rintro e W1 ⟨rfl, hd1⟩; have HD1 := Aside0.mk hd1.below; clear hd1)
                  | (go_at_call 57; (with_reducible refine (HI2.out _).mono ?_); rintro e W2 ⟨rfl, hd2⟩; have HD2 := Aside0.mk hd2.below; clear hd2))
                go_roundw
                case rel => exact ⟨out', st2, 3 + 1, by go_num, by omega, ⟨(Kd.R_below (Kd.R_below (Kd.R_alloc (Kd.R_alloc HV.out.1 _) _) HD1.out) HD2.out), (Kd.R_below (Kd.R_below (Kd.R_alloc (Kd.R_alloc HV.out.2.1 _) _) HD1.out) HD2.out), (below_then (below_then (below_alloc (below_alloc HV.out.2.2 _) _) (below_alloc (below_alloc HV.out.2.2 _) _).size HD1.out) (below_then (below_alloc (below_alloc HV.out.2.2 _) _) (below_alloc (below_alloc HV.out.2.2 _) _).size HD1.out).size HD2.out)⟩, ⟨HSK.out, HT.out.2.1, HT.out.2.2⟩⟩
                case measure => simp [intOf]
              | true =>
                have HI2 := Aside0.mk (fun W => spec_inRange.calls (((y0 : Int) + -1)) 0 15 _ W (inRange_eq' _ _ _))
                rw [hb2] at HI2
                have hbc : 0 ≤ (x0 : Int) ∧ (x0 : Int) < 16 ∧ 0 ≤ ((y0 : Int) - 1) ∧ ((y0 : Int) - 1) < 16 := by simp at hb hb2; omega
                have HQ := Aside0.mk (show (((y0 : Int) - 1)).toNat * 16 + ((x0 : Int)).toNat = (((y0 : Int) + -1) * 16 + (x0 : Int)).toNat by omega)
                have hq256 : (((y0 : Int) + -1) * 16 + (x0 : Int)).toNat < 256 := by omega
                have HBO := Aside0.mk hbc
                clear hb hb2
                have hy1 : 1 ≤ y0 := by omega
                clear hbc
                cases hg : g (((y0 : Int) + -1) * 16 + (x0 : Int)).toNat with
                | false =>
                  have HSK := Aside0.mk (mid_skip HM2.out (.inl (by rw [Bool.eq_false_iff]; intro h; have := ((hasP_iff g _ _).1 h).2.2.2.2; rw [HQ.out, hg] at this; cases this)))
                  go_wp2_with (first
                    | (go_at_call 57; (with_reducible refine (HI1.out _).mono ?_); rintro e W1 ⟨rfl, hd1⟩; have HD1 := Aside0.mk hd1.below; clear hd1)
                    | (go_at_call 57; (with_reducible refine (HI2.out _).mono ?_); rintro e W2 ⟨rfl, hd2⟩; have HD2 := Aside0.mk hd2.below; clear hd2; have hcg := HRC.out W2 (below_then (below_then (below_alloc (below_alloc HV.out.2.2 _) _) (below_alloc (below_alloc HV.out.2.2 _) _).size HD1.out) (below_then (below_alloc (below_alloc HV.out.2.2 _) _) (below_alloc (below_alloc HV.out.2.2 _) _).size HD1.out).size HD2.out) ((((((y0 : Int) + -1) * 16 + (x0 : Int)).toNat : Nat) : Int)) (by omega) (by omega); rw [Int.toNat_natCast, rdT_nat g _ hq256, hg] at hcg))
                  go_roundw
                  case rel => exact ⟨out', st2, 3 + 1, by go_num, by omega, ⟨(Kd.R_below (Kd.R_below (Kd.R_alloc (Kd.R_alloc HV.out.1 _) _) HD1.out) HD2.out), (Kd.R_below (Kd.R_below (Kd.R_alloc (Kd.R_alloc HV.out.2.1 _) _) HD1.out) HD2.out), (below_then (below_then (below_alloc (below_alloc HV.out.2.2 _) _) (below_alloc (below_alloc HV.out.2.2 _) _).size HD1.out) (below_then (below_alloc (below_alloc HV.out.2.2 _) _) (below_alloc (below_alloc HV.out.2.2 _) _).size HD1.out).size HD2.out)⟩, ⟨HSK.out, HT.out.2.1, HT.out.2.2⟩⟩
                  case measure => simp [intOf]
                | true =>
                  cases ho : out' (((y0 : Int) + -1) * 16 + (x0 : Int)).toNat with
                  | true =>
                    have HSK := Aside0.mk (mid_skip HM2.out (.inr (by rw [HQ.out]; exact ho)))
                    go_wp2_with (first
                      | (go_at_call 57; (with_reducible refine (HI1.out _).mono ?_); rintro e W1 ⟨rfl, hd1⟩; have HD1 := Aside0.mk hd1.below; clear hd1)
                      | (go_at_call 57; (with_reducible refine (HI2.out _).mono ?_); rintro e W2 ⟨rfl, hd2⟩; have HD2 := Aside0.mk hd2.below; clear hd2; have hcg := HRC.out W2 (below_then (below_then (below_alloc (below_alloc HV.out.2.2 _) _) (below_alloc (below_alloc HV.out.2.2 _) _).size HD1.out) (below_then (below_alloc (below_alloc HV.out.2.2 _) _) (below_alloc (below_alloc HV.out.2.2 _) _).size HD1.out).size HD2.out) ((((((y0 : Int) + -1) * 16 + (x0 : Int)).toNat : Nat) : Int)) (by omega) (by omega); rw [Int.toNat_natCast, rdT_nat g _ hq256, hg] at hcg; have hco := (tabR_cell (Kd.R_below (Kd.R_below (Kd.R_alloc (Kd.R_alloc HV.out.2.1 _) _) HD1.out) HD2.out) (((y0 : Int) + -1) * 16 + (x0 : Int)).toNat hq256).1; rw [ho] at hco; have hcf := (tabR_cell (Kd.R_below (Kd.R_below (Kd.R_alloc (Kd.R_alloc HV.out.2.1 _) _) HD1.out) HD2.out) (((y0 : Int) + -1) * 16 + (x0 : Int)).toNat hq256).2))
                    go_roundw
                    case rel => exact ⟨out', st2, 3 + 1, by go_num, by omega, ⟨(Kd.R_below (Kd.R_below (Kd.R_alloc (Kd.R_alloc HV.out.1 _) _) HD1.out) HD2.out), (Kd.R_below (Kd.R_below (Kd.R_alloc (Kd.R_alloc HV.out.2.1 _) _) HD1.out) HD2.out), (below_then (below_then (below_alloc (below_alloc HV.out.2.2 _) _) (below_alloc (below_alloc HV.out.2.2 _) _).size HD1.out) (below_then (below_alloc (below_alloc HV.out.2.2 _) _) (below_alloc (below_alloc HV.out.2.2 _) _).size HD1.out).size HD2.out)⟩, ⟨HSK.out, HT.out.2.1, HT.out.2.2⟩⟩
                    case measure => simp [intOf]
                  | false =>
                    have HPU := Aside0.mk (mid_push (todo' := st2 ++ [(((y0 : Int) + -1) * 16 + (x0 : Int)).toNat]) HM2.out ((hasP_iff g _ _).2 ⟨HBO.out.1, HBO.out.2.1, HBO.out.2.2.1, HBO.out.2.2.2, by rw [HQ.out]; exact hg⟩) (nb_adj p hp256 _ _ HBO.out.1 HBO.out.2.1 HBO.out.2.2.1 HBO.out.2.2.2 (by have h1 := HPX.out; have h2 := HPY.out; omega)) (fun q hq => by rw [HQ.out]; rcases List.mem_append.1 hq with h | h; exact .inr h; exact .inl (List.mem_singleton.1 h)) (fun q hq => List.mem_append_left _ hq) (by rw [HQ.out]; simp))
                    rw [HQ.out] at HPU
                    have HUN := Aside0.mk (unseen_set out' (((y0 : Int) + -1) * 16 + (x0 : Int)).toNat hq256 ho)
                    have HXI := Aside0.mk (show (((y0 : Int) + -1) * 16 + (x0 : Int)) = (((((y0 : Int) + -1) * 16 + (x0 : Int)).toNat : Nat) : Int) by omega)
                    go_wp2_with (first
                      | (go_at_call 57; (with_reducible refine (HI1.out _).mono ?_); rintro e W1 ⟨rfl, hd1⟩; have HD1 := Aside0.mk hd1.below; clear hd1)
                      | (go_at_call 57; (with_reducible refine (HI2.out _).mono ?_); rintro e W2 ⟨rfl, hd2⟩; have HD2 := Aside0.mk hd2.below; clear hd2; have hcg := HRC.out W2 (below_then (below_then (below_alloc (below_alloc HV.out.2.2 _) _) (below_alloc (below_alloc HV.out.2.2 _) _).size HD1.out) (below_then (below_alloc (below_alloc HV.out.2.2 _) _) (below_alloc (below_alloc HV.out.2.2 _) _).size HD1.out).size HD2.out) ((((((y0 : Int) + -1) * 16 + (x0 : Int)).toNat : Nat) : Int)) (by omega) (by omega); rw [Int.toNat_natCast, rdT_nat g _ hq256, hg] at hcg; have hco := (tabR_cell (Kd.R_below (Kd.R_below (Kd.R_alloc (Kd.R_alloc HV.out.2.1 _) _) HD1.out) HD2.out) (((y0 : Int) + -1) * 16 + (x0 : Int)).toNat hq256).1; rw [ho] at hco; have hcf := (tabR_cell (Kd.R_below (Kd.R_below (Kd.R_alloc (Kd.R_alloc HV.out.2.1 _) _) HD1.out) HD2.out) (((y0 : Int) + -1) * 16 + (x0 : Int)).toNat hq256).2; obtain ⟨cc2, hcc2⟩ := Kd.R_typed (Kd.R_below (Kd.R_below (Kd.R_alloc (Kd.R_alloc HV.out.2.1 _) _) HD1.out) HD2.out) B rfl; have HS3 := Aside0.mk (Kd.R_set (Kd.R_below (Kd.R_below (Kd.R_alloc (Kd.R_alloc HV.out.1 _) _) HD1.out) HD2.out) hcc2 (by decide) (((y0 : Int) + -1) * 16 + (x0 : Int)).toNat (.bool true)); have HO3 := Aside0.mk (tabR_put (Kd.R_below (Kd.R_below (Kd.R_alloc (Kd.R_alloc HV.out.2.1 _) _) HD1.out) HD2.out) (((y0 : Int) + -1) * 16 + (x0 : Int)).toNat true); have HB3 := Aside0.mk (below_set (g := B) (j := (((y0 : Int) + -1) * 16 + (x0 : Int)).toNat) (v := .bool true) (below_then (below_then (below_alloc (below_alloc HV.out.2.2 _) _) (below_alloc (below_alloc HV.out.2.2 _) _).size HD1.out) (below_then (below_alloc (below_alloc HV.out.2.2 _) _) (below_alloc (below_alloc HV.out.2.2 _) _).size HD1.out).size HD2.out) HBL.out); clear hcc2)
                      | ((with_reducible refine gate_builtin (b := .append) (xs := #[.tmp 96, .tmp 102]) rfl ?_); at_builtin; refine Kd.R_append (Kd.int .i64) (w0 := w) w.heap.size rfl (.tmp 96) (.tmp 102) 70 3 (.int .i64 0) 8 rfl Try.underlying70 info3 rfl (by decide) (by omega) u6 (st2.map fun (n : Nat) => (n : Int)) (((y0 : Int) + -1) * 16 + (x0 : Int)) [.int .i64 (((y0 : Int) + -1) * 16 + (x0 : Int))] (fun _ => True) (fun _ => False) rfl ?aX ?aP (fun _ hk => hk.elim) (fun _ _ => trivial) HS3.out HB3.out HB3.out.size ?aL ?_; (case aX => first | rfl | (go_simp; done) | (simp; done) | (go_simp; rfl)); (case aP => rfl); (case aL => (have hl_ := HT.out.2.1; rw [List.length_map]; omega)); intro v7 W7 ho7 hb7 hg7 hat7; have HS7 := Aside0.mk ho7; have HB7 := Aside0.mk hb7; have HO7 := Aside0.mk (Kd.R_over HO3.out HS3.out (by decide) hg7); clear ho7 hb7 hg7 hat7))
                    go_roundw
                    case rel =>
                      refine ⟨fun p => if p = (((y0 : Int) + -1) * 16 + (x0 : Int)).toNat then true else out' p, st2 ++ [(((y0 : Int) + -1) * 16 + (x0 : Int)).toNat], 3 + 1, by go_num, by omega, ⟨by have h := HS7.out; rw [HXI.out] at h; rw [List.map_append]; exact h, HO7.out, HB7.out⟩, ⟨HPU.out, ?_, ?_⟩⟩
                      · have h1 := HUN.out
                        have h2 := HT.out.2.1
                        rw [List.length_append, List.length_singleton]
                        omega
                      · have h1 := HUN.out
                        have h2 := HT.out.2.2
                        rw [List.length_append, List.length_singleton]
                        omega
                    case measure => simp [intOf]
        · have hd4 : d = 4 := by omega
          subst hd4
          go_wp2
          go_roundw
          case rel => exact ⟨out', st2, p, HV, ⟨HT.out.1, HT.out.2.1⟩⟩
          case measure =>
            obtain ⟨A2, c2, e2, _⟩ := Kd.Q_slice (Kd.Q_of_R HV.out.1)
            have h1 := unseen_outT HV.out.2.1
            have h2 := HMS.out
            have h3 := HT.out.2.2
            have h5 := HUE.out
            subst e2
            show 2 * unseen (outT wi B) + (st2.map fun (n : Nat) => (n : Int)).length < 2 * unseen (outT wo B) + (m + 1)
            rw [h1, h2, List.length_map]
            omega
theorem spec_spreadFrom.calls (A0 : Option Addr) (c0 : Nat) (l0 : List Bool) (a1 : Int) (r : List Bool) (w : World) (hr0 : Kd.bool.C w A0 l0.length l0) (hc0 : l0.length ≤ c0) (h : spec_spreadFrom.f l0 a1 = some r) :
    Calls Try.prog 89 #[.slice A0 l0.length c0, .int .i64 a1] w fun e w' => ∃ v0_ : Value, e = .returned (v0_) ∧ Kd.bool.R 4 w' w.heap.size (fun _ => True) v0_ r ∧ Below w.heap.size w w' := by
  unfold spec_spreadFrom.f at h
  by_cases hl : l0.length = 256 ∧ 0 ≤ a1 ∧ a1 < 256
  · rw [if_pos hl] at h
    obtain rfl := Option.some.inj h
    obtain ⟨hl, h0, h1⟩ := hl
    obtain ⟨s, rfl⟩ := Int.eq_ofNat_of_zero_le h0
    rw [hl] at hr0 hc0 ⊢
    rw [tab_of l0 hl] at hr0
    exact spread_calls A0 c0 _ s (by omega) w hr0 hc0
  · rw [if_neg hl] at h; cases h
end Go.Proofs.Ytfgeickfheogoaa.Q

namespace Go.Proofs.Ytfgeickfheogoaa.Q
open Go.RowKit Go.Proofs.YtfgeickfheogoaaW.PrintWords Go.Proofs.YtfgeickfheogoaaW.PrintLast Go.Proofs.YtfgeickfheogoaaW.PrintMore
attribute [local go_sem] max2_int min2_int max_two min_two max_three min_three max_four min_four
set_option linter.unusedVariables false
set_option linter.unusedSimpArgs false
/-! ### spec_parts: function 81 -/
mutual
noncomputable def spec_parts.l0 : Nat → List (List (S57)) → List Bool → Int → Option ((List (List (S57))))
  | 0, _, _, _ => none
  | k + 1, x3, x4, x5 => if x5 < (x4.length : Int) then (if 0 ≤ x5 then (if rdOf false x4 x5 = true then ((spec_spreadFrom.f x4 x5).bind fun t82008 => ((spec_runsOf.f k t82008).bind fun t82011 => (if x3.length < 5864062014805 then (spec_parts.l1 k (x3 ++ [t82011]) x4 x5 t82008 0) else (none)))) else (spec_parts.l0 k x3 x4 (wrap64 (x5 + 1)))) else (none)) else (some x3)
noncomputable def spec_parts.l1 : Nat → List (List (S57)) → List Bool → Int → List Bool → Int → Option ((List (List (S57))))
  | 0, _, _, _, _, _ => none
  | k + 1, x3, x4, x5, x6, x7 => if x7 < (x4.length : Int) then (if 0 ≤ x7 then (if rdOf false x4 x7 = true then (if x7 < (x6.length : Int) then (spec_parts.l1 k x3 (x4.set (x7 : Int).toNat (!(rdOf false x6 x7))) x5 x6 (wrap64 (x7 + 1))) else (none)) else (spec_parts.l1 k x3 (x4.set (x7 : Int).toNat false) x5 x6 (wrap64 (x7 + 1)))) else (none)) else (spec_parts.l0 k x3 x4 (wrap64 (x5 + 1)))
end
noncomputable def spec_parts.f (k : Nat) (l0 : List (S57)) : Option ((List (List (S57)))) := (spec_gridOf.f k l0).bind fun t82004 => (spec_parts.l0 k (([] : List (List (S57)))) t82004 0)
theorem spec_parts.mono_l : ∀ k, (∀ y0 y1 y2, LeO (spec_parts.l0 k y0 y1 y2) (spec_parts.l0 (k + 1) y0 y1 y2)) ∧ (∀ y0 y1 y2 y3 y4, LeO (spec_parts.l1 k y0 y1 y2 y3 y4) (spec_parts.l1 (k + 1) y0 y1 y2 y3 y4))
  | 0 => ⟨fun _ _ _ r h => by simp [spec_parts.l0] at h, fun _ _ _ _ _ r h => by simp [spec_parts.l1] at h⟩
  | k + 1 => by
    obtain ⟨ih0, ih1⟩ := spec_parts.mono_l k
    refine ⟨?_, ?_⟩
    · intro y0 y1 y2
      unfold spec_parts.l0
      repeat' first
      | (with_reducible exact ih0 _ _ _)
      | (with_reducible exact ih1 _ _ _ _ _)
      | (with_reducible exact spec_gridOf.mono _ _)
      | (with_reducible exact spec_runsOf.mono _ _)
      | (with_reducible exact LeO.refl _)
      | (with_reducible exact LeO.none _)
      | (with_reducible refine LeO.ite ?_ ?_)
      | (with_reducible refine LeO.bind ?_ (fun _ => ?_))
      | exact ih0 _ _ _
      | exact ih1 _ _ _ _ _
      | exact spec_gridOf.mono _ _
      | exact spec_runsOf.mono _ _
      | exact LeO.none _
      | refine LeO.ite ?_ ?_
      | refine LeO.bind ?_ (fun _ => ?_)
    · intro y0 y1 y2 y3 y4
      unfold spec_parts.l1
      repeat' first
      | (with_reducible exact ih0 _ _ _)
      | (with_reducible exact ih1 _ _ _ _ _)
      | (with_reducible exact spec_gridOf.mono _ _)
      | (with_reducible exact spec_runsOf.mono _ _)
      | (with_reducible exact LeO.refl _)
      | (with_reducible exact LeO.none _)
      | (with_reducible refine LeO.ite ?_ ?_)
      | (with_reducible refine LeO.bind ?_ (fun _ => ?_))
      | exact ih0 _ _ _
      | exact ih1 _ _ _ _ _
      | exact spec_gridOf.mono _ _
      | exact spec_runsOf.mono _ _
      | exact LeO.none _
      | refine LeO.ite ?_ ?_
      | refine LeO.bind ?_ (fun _ => ?_)
theorem spec_parts.mono : ∀ a0 k, LeO (spec_parts.f k a0) (spec_parts.f (k + 1) a0) := by
  intro a0 k
  obtain ⟨ih0, ih1⟩ := spec_parts.mono_l k
  unfold spec_parts.f
  repeat' first
      | (with_reducible exact ih0 _ _ _)
      | (with_reducible exact ih1 _ _ _ _ _)
      | (with_reducible exact spec_gridOf.mono _ _)
      | (with_reducible exact spec_runsOf.mono _ _)
      | (with_reducible exact LeO.refl _)
      | (with_reducible exact LeO.none _)
      | (with_reducible refine LeO.ite ?_ ?_)
      | (with_reducible refine LeO.bind ?_ (fun _ => ?_))
      | exact ih0 _ _ _
      | exact ih1 _ _ _ _ _
      | exact spec_gridOf.mono _ _
      | exact spec_runsOf.mono _ _
      | exact LeO.none _
      | refine LeO.ite ?_ ?_
      | refine LeO.bind ?_ (fun _ => ?_)
set_option maxHeartbeats 8000000 in
set_option maxRecDepth 100000 in
theorem spec_parts.calls (k : Nat) (A0 : Option Addr) (c0 : Nat) (l0 : List (S57)) (r : List (List (S57))) (w : World) (hr0 : Kd.C k57 w A0 l0.length l0) (hc0 : l0.length ≤ c0) (h : spec_parts.f k l0 = some r) :
    Calls Try.prog 81 #[.slice A0 l0.length c0] w fun e w' => ∃ v0_ : Value, e = .returned (v0_) ∧ Kd.S (Kd.slice 57 k57) 25 w' w.heap.size (fun _ => True) v0_ r ∧ Below w.heap.size w w' := by
  have HR0 := Aside0.mk hr0
  have HC0 := Aside0.mk hc0
  clear hr0 hc0
  have HB := Aside0.mk (Below.refl w.heap.size w)
  have H : ((spec_gridOf.f k l0).bind fun t82004 => (spec_parts.l0 k (([] : List (List (S57)))) t82004 0)) = some r := h
  clear h
  obtain ⟨y82001, hy82001⟩ : ∃ y_ : List (List (S57)), y_ = (([] : List (List (S57)))) := ⟨_, rfl⟩
  replace H : ((spec_gridOf.f k l0).bind fun t82004 => (spec_parts.l0 k y82001 t82004 0)) = some r := by first | (rw [hy82001]; with_reducible exact H) | (have H2_ := (Option.bind_some _ _).symm.trans H; rw [hy82001]; with_reducible exact H2_) | (have H2_ := (Option.bind_some _ _).symm.trans H; with_reducible exact H2_) | with_reducible exact H | (rw [hy82001]; exact H) | exact H
  have Ny82001 := Aside0.mk hy82001
  clear hy82001
  replace H := Option.bind_eq_some_iff.mp H
  obtain ⟨t82004, A20, H⟩ := H
  replace H : (spec_parts.l0 k y82001 t82004 0) = some r := H
  have A2 := Aside0.mk A20
  clear A20
  have H' := Aside0.mk H
  clear H
  go_enter Try.func81, Try.ntmps81
  go_wp2_with (first | ((with_reducible refine gate_dst (N := 8) rfl ?_); refine Kd.S_lit (Kd.slice 57 k57) _ 25 ?hg (N := 8) ?hd (xs := ([] : List (List (S57)))) (inner := []) (ok := fun _ => True) (okp := fun _ => True) ?hr ?hp (fun _ hk => hk) trivial (Below.refl _ _) (Nat.le_refl _) (by simp) ?_; (case hd => rfl); (case hg => rfl); (case hr => first | (go_simp; done) | (go_simp; rfl)); (case hp => exact (Reps.none _ _)); intro v82002 w3 ho4 hb hg_ hnew_; clear hg_ hnew_; (first | rw [← Ny82001.out] at ho4 | (simp only [Int.reduceToNat] at ho4; rw [← Ny82001.out] at ho4)); have n0_ := Aside0.mk (Kd.S_lower ho4 (below_size (by repeat (first | (with_reducible first | exact HB.out | apply below_alloc | apply pw_below_drewN | apply below_drew1) | exact HB.out)))); have n1_ := Aside0.mk (below_step (by repeat (first | (with_reducible first | exact HB.out | apply below_alloc | apply pw_below_drewN | apply below_drew1) | exact HB.out)) hb); clear HB; have HO82003 := n0_; have HB := n1_; clear n0_ n1_; clear hb ho4) | ((with_reducible refine gate_callee (f := 58) rfl ?_); refine goesL_ (some 10) rfl rfl Try.func58 (by kernel_rfl) rfl #[.slice A0 l0.length c0] rfl (by (try simp only [List.map_toArray, List.map_cons, List.map_nil]); first | done | rfl | (simp only [List.length_drop, List.length_take]; rfl)) ?_; (with_reducible refine (spec_gridOf.calls k _ _ l0 t82004 _ ?side1 ?side2 A2.out).mono ?_); (case side1 => repeat (first | exact (Kd.C_below HR0.out HB.out) | (with_reducible refine Kd.C_alloc ?_ _) | (with_reducible refine Kd.C_drewN ?_ _) | (with_reducible refine Kd.C_drew ?_))); (case side2 => exact HC0.out); rintro e w5 ⟨v82005, rfl, ho0, hb⟩; refine ⟨_, rfl, ?_⟩; have n0_ := Aside0.mk (Kd.S_below (by (with_reducible repeat (first | apply Kd.S_alloc | apply Kd.S_drewN | apply Kd.S_drew)); exact HO82003.out) hb); have n1_ := Aside0.mk (Kd.R_lower ho0 (below_size (by repeat (first | (with_reducible first | exact HB.out | apply below_alloc | apply pw_below_drewN | apply below_drew1) | exact HB.out)))); have n2_ := Aside0.mk (below_step (by repeat (first | (with_reducible first | exact HB.out | apply below_alloc | apply pw_below_drewN | apply below_drew1) | exact HB.out)) hb); clear HO82003; clear HB; have HO82003 := n0_; have HO82006 := n1_; have HB := n2_; clear n0_ n1_ n2_; (try clear hb); (try clear hb2); (try clear hk); (try clear hi); (try clear ho0)))
  go_loopg [3, 5] k (fun kq v3 v5 w' => ∃ (x3_1 : List (List (S57))) (x4_1 : List Bool) (x5_1 : Int), v5 = .int .i64 x5_1 ∧ Aside0 (spec_parts.l0 kq x3_1 x4_1 x5_1 = some r) ∧ Aside0 (kq ≤ k) ∧ Aside0 (Kd.S (Kd.slice 57 k57) 25 w' w.heap.size (fun _ => True) v3 x3_1) ∧ Aside0 (Kd.R Kd.bool 4 w' w.heap.size (fun _ => True) v82005 x4_1) ∧ Aside0 (Below w.heap.size w w'))
  case atStart => exact ⟨(y82001), (t82004), (0), (by first | rfl | (simp; done) | (simp [*]; done)), H', ⟨Nat.le_refl _⟩, ⟨by (with_reducible repeat (first | apply Kd.S_alloc | apply Kd.S_drewN | apply Kd.S_drew)); exact HO82003.out⟩, ⟨by (with_reducible repeat (first | apply Kd.R_alloc | apply Kd.R_drewN | apply Kd.R_drew)); exact HO82006.out⟩, ⟨by repeat (first | (with_reducible first | exact HB.out | apply below_alloc | apply pw_below_drewN | apply below_drew1) | exact HB.out)⟩⟩
  case round =>
    clear H'
    try clear p2
    try clear c5
    obtain ⟨x3_1, x4_1, x5_1, rfl, HA, HK1, HO_3, HO_4, HB⟩ := hrel
    cases gk with
    | zero => exact absurd HA.out (by simp [spec_parts.l0])
    | succ k1 =>
      have H := HA.out
      clear HA
      simp only [spec_parts.l0] at H
      by_cases c6 : x5_1 < (x4_1.length : Int)
      · rw [if_pos c6] at H
        have c6b0 : decide (x5_1 < (x4_1.length : Int)) = true := decide_eq_true c6
        clear c6
        by_cases c7 : 0 ≤ x5_1
        · rw [if_pos c7] at H
          have c7b0 : decide (0 ≤ x5_1) = true := decide_eq_true c7
          clear c7
          obtain ⟨bq8, hbq8⟩ : ∃ b_ : Bool, b_ = (rdOf false x4_1 x5_1) := ⟨_, rfl⟩
          replace H : (if bq8 = true then ((spec_spreadFrom.f x4_1 x5_1).bind fun t82008 => ((spec_runsOf.f k1 t82008).bind fun t82011 => (if x3_1.length < 5864062014805 then (spec_parts.l1 k1 (x3_1 ++ [t82011]) x4_1 x5_1 t82008 0) else (none)))) else (spec_parts.l0 k1 x3_1 x4_1 (wrap64 (x5_1 + 1)))) = some r := by rw [← hbq8] at H; exact H
          have Nbq8 := Aside0.mk hbq8
          clear hbq8
          by_cases c9 : bq8 = true
          · subst c9
            have H1 : ((spec_spreadFrom.f x4_1 x5_1).bind fun t82008 => ((spec_runsOf.f k1 t82008).bind fun t82011 => (if x3_1.length < 5864062014805 then (spec_parts.l1 k1 (x3_1 ++ [t82011]) x4_1 x5_1 t82008 0) else (none)))) = some r := by rw [if_pos rfl] at H; exact H
            clear H
            have H := H1
            clear H1
            replace H := Option.bind_eq_some_iff.mp H
            obtain ⟨t82008, A100, H⟩ := H
            replace H : ((spec_runsOf.f k1 t82008).bind fun t82011 => (if x3_1.length < 5864062014805 then (spec_parts.l1 k1 (x3_1 ++ [t82011]) x4_1 x5_1 t82008 0) else (none))) = some r := H
            have A10 := Aside0.mk A100
            clear A100
            replace H := Option.bind_eq_some_iff.mp H
            obtain ⟨t82011, A110, H⟩ := H
            replace H : (if x3_1.length < 5864062014805 then (spec_parts.l1 k1 (x3_1 ++ [t82011]) x4_1 x5_1 t82008 0) else (none)) = some r := H
            have A11 := Aside0.mk A110
            clear A110
            by_cases c12 : x3_1.length < 5864062014805
            · rw [if_pos c12] at H
              have LMc12 := Aside0.mk c12
              clear c12
              obtain ⟨y82014, hy82014⟩ : ∃ y_ : List (List (S57)), y_ = (x3_1 ++ [t82011]) := ⟨_, rfl⟩
              replace H : (spec_parts.l1 k1 y82014 x4_1 x5_1 t82008 0) = some r := by first | (rw [hy82014]; with_reducible exact H) | (have H2_ := (Option.bind_some _ _).symm.trans H; rw [hy82014]; with_reducible exact H2_) | (have H2_ := (Option.bind_some _ _).symm.trans H; with_reducible exact H2_) | with_reducible exact H | (rw [hy82014]; exact H) | exact H
              have Ny82014 := Aside0.mk hy82014
              clear hy82014
              have H' := Aside0.mk H
              clear H
              obtain ⟨Ao13, co13, eo13⟩ := Kd.R_slice HO_4.out
              subst eo13
              have p82007 : 0 ≤ (x5_1 : Int) := of_decide_eq_true (by first | (with_reducible assumption) | assumption)
              have q82007 : x5_1 < (x4_1.length : Int) := of_decide_eq_true (by first | (with_reducible assumption) | assumption)
              obtain ⟨ad82007, e82007, hx82007_0⟩ := Kd.at_bool (Kd.R_reads' HO_4.out).2.2 x5_1 p82007 q82007
              (try rw [← Nbq8.out] at hx82007_0)
              cases e82007
              obtain ⟨gz_82007, cz_, ez_, _, _, _⟩ := Kd.R_form HO_4.out (by omega)
              (first | cases ez_ | (injection ez_ with ea_ en_ ec_; injection ea_ with ea_; subst ea_; subst ec_; clear en_))
              rw [add_at, Nat.zero_add] at hx82007_0
              replace p82007 := eq_true p82007
              replace q82007 := eq_true q82007
              go_wp2_with (first | ((with_reducible refine gate_callee (f := 89) rfl ?_); refine goesL_ (some 23) rfl rfl Try.func89 (by kernel_rfl) rfl #[.slice (some ⟨gz_82007, 0, none⟩) x4_1.length co13, .int .i64 x5_1] rfl (by (try simp only [List.map_toArray, List.map_cons, List.map_nil]); first | done | rfl | (simp only [List.length_drop, List.length_take]; rfl)) ?_; (with_reducible refine (spec_spreadFrom.calls _ _ x4_1 x5_1 t82008 _ ?side1 ?side2 A10.out).mono ?_); (case side1 => repeat (first | exact (Kd.R_reads' HO_4.out).2.2 | (with_reducible refine Kd.C_alloc ?_ _) | (with_reducible refine Kd.C_drewN ?_ _) | (with_reducible refine Kd.C_drew ?_))); (case side2 => exact (Kd.R_reads' HO_4.out).2.1); rintro e w14 ⟨v82009, rfl, ho0, hb⟩; refine ⟨_, rfl, ?_⟩; have n0_ := Aside0.mk (Kd.S_below (by (with_reducible repeat (first | apply Kd.S_alloc | apply Kd.S_drewN | apply Kd.S_drew)); exact HO_3.out) hb); have n1_ := Aside0.mk (Kd.R_elder' (by (with_reducible repeat (first | apply Kd.R_alloc | apply Kd.R_drewN | apply Kd.R_drew)); exact HO_4.out) (Kd.R_base ho0) hb); have n2_ := Aside0.mk (Kd.R_lower (Kd.R_new' ho0 (Kd.R_lt (by (with_reducible repeat (first | apply Kd.R_alloc | apply Kd.R_drewN | apply Kd.R_drew)); exact HO_4.out))) (below_size (by repeat (first | (with_reducible first | exact HB.out | apply below_alloc | apply pw_below_drewN | apply below_drew1) | exact HB.out)))); have n3_ := Aside0.mk (below_step (by repeat (first | (with_reducible first | exact HB.out | apply below_alloc | apply pw_below_drewN | apply below_drew1) | exact HB.out)) hb); clear HO_3; clear HO_4; clear HB; have HO_3 := n0_; have HO_4 := n1_; have HO82010 := n2_; have HB := n3_; clear n0_ n1_ n2_ n3_; (try clear hb); (try clear hb2); (try clear hk); (try clear hi); (try clear ho0); obtain ⟨Ao15, co15, eo15⟩ := Kd.R_slice HO82010.out; subst eo15) | ((with_reducible refine gate_callee (f := 73) rfl ?_); refine goesL_ (some 26) rfl rfl Try.func73 (by kernel_rfl) rfl #[.slice Ao15 t82008.length co15] rfl (by (try simp only [List.map_toArray, List.map_cons, List.map_nil]); first | done | rfl | (simp only [List.length_drop, List.length_take]; rfl)) ?_; (with_reducible refine (spec_runsOf.calls k1 _ _ t82008 t82011 _ ?side1 ?side2 A11.out).mono ?_); (case side1 => repeat (first | exact (Kd.R_reads' HO82010.out).2.2 | (with_reducible refine Kd.C_alloc ?_ _) | (with_reducible refine Kd.C_drewN ?_ _) | (with_reducible refine Kd.C_drew ?_))); (case side2 => exact (Kd.R_reads' HO82010.out).2.1); rintro e w16 ⟨v82012, rfl, ho0, hb⟩; refine ⟨_, rfl, ?_⟩; have n0_ := Aside0.mk (Kd.S_elder' (by (with_reducible repeat (first | apply Kd.S_alloc | apply Kd.S_drewN | apply Kd.S_drew)); exact HO_3.out) (Kd.R_base ho0) hb); have n1_ := Aside0.mk (Kd.R_below (by (with_reducible repeat (first | apply Kd.R_alloc | apply Kd.R_drewN | apply Kd.R_drew)); exact HO_4.out) hb); have n2_ := Aside0.mk (Kd.R_below (by (with_reducible repeat (first | apply Kd.R_alloc | apply Kd.R_drewN | apply Kd.R_drew)); exact HO82010.out) hb); have n3_ := Aside0.mk (Kd.R_lower ho0 (below_size (by repeat (first | (with_reducible first | exact HB.out | apply below_alloc | apply pw_below_drewN | apply below_drew1) | exact HB.out)))); have n4_ := Aside0.mk (below_step (by repeat (first | (with_reducible first | exact HB.out | apply below_alloc | apply pw_below_drewN | apply below_drew1) | exact HB.out)) hb); clear HO_3; clear HO_4; clear HO82010; clear HB; have HO_3 := n0_; have HO_4 := n1_; have HO82010 := n2_; have HO82013 := n3_; have HB := n4_; clear n0_ n1_ n2_ n3_ n4_; (try clear hb); (try clear hb2); (try clear hk); (try clear hi); (try clear ho0); obtain ⟨Ao18, co18, eo18⟩ := Kd.R_slice HO82013.out; subst eo18) | ((with_reducible refine gate_builtin (b := .append) (xs := #[.tmp 24, .tmp 27]) rfl ?_); at_builtin; refine Kd.S_append (Kd.slice 57 k57) (w0 := w) w.heap.size rfl (.tmp 24) (.tmp 27) 52 25 (.slice none 0 0) 24 rfl Try.underlying52 info25 rfl (by decide) (by omega) u3 x3_1 t82011 [.slice Ao18 t82011.length co18] (fun _ => True) (fun k_ => some k_ = (.slice Ao18 t82011.length co18 : Value).ownBlock) rfl rfl ?aP (fun k_ hk_ => ((Kd.R_mono (ok' := fun k_ => ((fun _ => True)) k_ ∧ some k_ ≠ (u3 : Value).ownBlock) (Kd.R_apart' (HO82013.out) (Kd.S_typed HO_3.out) (by decide)) (fun k_ hk => ⟨trivial, hk.2⟩))).1 k_ hk_.symm) ?aF ?aO ?aB ?aS ?aL ?_; (case aP => exact Kd.M_row (Kd.R_mono (Kd.R_tight rfl (Kd.R_mono (ok' := fun k_ => ((fun _ => True)) k_ ∧ some k_ ≠ (u3 : Value).ownBlock) (Kd.R_apart' (HO82013.out) (Kd.S_typed HO_3.out) (by decide)) (fun k_ hk => ⟨trivial, hk.2⟩))) (fun _ h_ => h_))); (case aB => exact (by repeat (first | (with_reducible first | exact HB.out | apply below_alloc | apply pw_below_drewN | apply below_drew1) | exact HB.out))); (case aF => exact (fun _ _ => trivial)); (case aO => exact (by (with_reducible repeat (first | apply Kd.S_alloc | apply Kd.S_drewN | apply Kd.S_drew)); exact Kd.S_mono HO_3.out (fun k_ hk => ⟨trivial, fun e_ => hk.2 e_⟩))); (case aS => exact (below_size (by repeat (first | (with_reducible first | exact HB.out | apply below_alloc | apply pw_below_drewN | apply below_drew1) | exact HB.out)))); (case aL => have := LMc12.out; omega); intro v82015 w17 ho hb hg hat; rw [← Ny82014.out] at ho; have n0_ := Aside0.mk (Kd.R_over' (by (with_reducible repeat (first | apply Kd.R_alloc | apply Kd.R_drewN | apply Kd.R_drew)); exact HO_4.out) (Kd.S_typed (by (with_reducible repeat (first | apply Kd.S_alloc | apply Kd.S_drewN | apply Kd.S_drew)); exact HO_3.out)) (by decide) hg); have n1_ := Aside0.mk (Kd.R_over' (by (with_reducible repeat (first | apply Kd.R_alloc | apply Kd.R_drewN | apply Kd.R_drew)); exact HO82010.out) (Kd.S_typed (by (with_reducible repeat (first | apply Kd.S_alloc | apply Kd.S_drewN | apply Kd.S_drew)); exact HO_3.out)) (by decide) hg); have n2_ := Aside0.mk (hb); have n3_ := Aside0.mk (ho); clear HO_4; clear HO82010; clear HB; clear HO_3; clear HO82013; have HO_4 := n0_; have HO82010 := n1_; have HB := n2_; have HO82016 := n3_; clear n0_ n1_ n2_ n3_; clear ho hb hg hat))
              go_loopg [7] k1 (fun kq v7 w' => ∃ (x4_2 : List Bool) (x7_2 : Int), v7 = .int .i64 x7_2 ∧ Aside0 (spec_parts.l1 kq y82014 x4_2 x5_1 t82008 x7_2 = some r) ∧ Aside0 (kq ≤ k1) ∧ Aside0 (Kd.S (Kd.slice 57 k57) 25 w' w.heap.size (fun _ => True) v82015 y82014) ∧ Aside0 (Kd.R Kd.bool 4 w' w.heap.size (fun k_ => some k_ ≠ ((.slice Ao15 t82008.length co15) : Value).ownBlock) (.slice (some ⟨gz_82007, 0, none⟩) x4_1.length co13) x4_2) ∧ Aside0 (Kd.R Kd.bool 4 w' w.heap.size (fun k_ => some k_ ≠ ((.slice (some ⟨gz_82007, 0, none⟩) x4_1.length co13) : Value).ownBlock) (.slice Ao15 t82008.length co15) t82008) ∧ Aside0 (Below w.heap.size w w'))
              case atStart => exact ⟨(x4_1), (0), (by first | rfl | (simp; done) | (simp [*]; done)), H', ⟨Nat.le_refl _⟩, ⟨by (with_reducible repeat (first | apply Kd.S_alloc | apply Kd.S_drewN | apply Kd.S_drew)); exact HO82016.out⟩, ⟨by (with_reducible repeat (first | apply Kd.R_alloc | apply Kd.R_drewN | apply Kd.R_drew)); exact Kd.R_mono HO_4.out (fun _ hk => hk.2)⟩, ⟨by (with_reducible repeat (first | apply Kd.R_alloc | apply Kd.R_drewN | apply Kd.R_drew)); exact Kd.R_mono HO82010.out (fun _ hk => hk.2)⟩, ⟨by repeat (first | (with_reducible first | exact HB.out | apply below_alloc | apply pw_below_drewN | apply below_drew1) | exact HB.out)⟩⟩
              case round =>
                clear H'
                try clear c1
                try clear p2
                try clear c5
                try clear c6
                try clear c6b0
                try clear p6
                try clear c7
                try clear c7b0
                try clear c8
                try clear p8
                try clear q8
                try clear hx8
                try clear c9
                try clear c12
                try clear hx82007_0
                try clear p2
                try clear p82007
                try clear q82007
                obtain ⟨x4_2, x7_2, rfl, HA, HK2, HO_3, HO_4, HO_6, HB⟩ := hrel
                have hl4_2 := (Kd.R_reads' HO_4.out).1
                rw [hl4_2] at HO_4
                (try simp only [hl4_2])
                (try simp only [hl4_2] at HO_3)
                (try simp only [hl4_2] at HO_6)
                cases gk with
                | zero => exact absurd HA.out (by simp [spec_parts.l1])
                | succ k2 =>
                  have H := HA.out
                  clear HA
                  simp only [spec_parts.l1] at H
                  by_cases c19 : x7_2 < (x4_2.length : Int)
                  · rw [if_pos c19] at H
                    have c19b0 : decide (x7_2 < (x4_2.length : Int)) = true := decide_eq_true c19
                    clear c19
                    by_cases c20 : 0 ≤ x7_2
                    · rw [if_pos c20] at H
                      have c20b0 : decide (0 ≤ x7_2) = true := decide_eq_true c20
                      clear c20
                      obtain ⟨bq21, hbq21⟩ : ∃ b_ : Bool, b_ = (rdOf false x4_2 x7_2) := ⟨_, rfl⟩
                      replace H : (if bq21 = true then (if x7_2 < (t82008.length : Int) then (spec_parts.l1 k2 y82014 (x4_2.set (x7_2 : Int).toNat (!(rdOf false t82008 x7_2))) x5_1 t82008 (wrap64 (x7_2 + 1))) else (none)) else (spec_parts.l1 k2 y82014 (x4_2.set (x7_2 : Int).toNat false) x5_1 t82008 (wrap64 (x7_2 + 1)))) = some r := by rw [← hbq21] at H; exact H
                      have Nbq21 := Aside0.mk hbq21
                      clear hbq21
                      by_cases c22 : bq21 = true
                      · subst c22
                        have H1 : (if x7_2 < (t82008.length : Int) then (spec_parts.l1 k2 y82014 (x4_2.set (x7_2 : Int).toNat (!(rdOf false t82008 x7_2))) x5_1 t82008 (wrap64 (x7_2 + 1))) else (none)) = some r := by rw [if_pos rfl] at H; exact H
                        clear H
                        have H := H1
                        clear H1
                        by_cases c23 : x7_2 < (t82008.length : Int)
                        · rw [if_pos c23] at H
                          have c23b0 : decide (x7_2 < (t82008.length : Int)) = true := decide_eq_true c23
                          clear c23
                          obtain ⟨y82019, hy82019⟩ : ∃ y_ : List Bool, y_ = (x4_2.set (x7_2 : Int).toNat (!(rdOf false t82008 x7_2))) := ⟨_, rfl⟩
                          replace H : (spec_parts.l1 k2 y82014 y82019 x5_1 t82008 (wrap64 (x7_2 + 1))) = some r := by first | (rw [hy82019]; with_reducible exact H) | (have H2_ := (Option.bind_some _ _).symm.trans H; rw [hy82019]; with_reducible exact H2_) | (have H2_ := (Option.bind_some _ _).symm.trans H; with_reducible exact H2_) | with_reducible exact H | (rw [hy82019]; exact H) | exact H
                          have Ny82019 := Aside0.mk hy82019
                          clear hy82019
                          have H' := Aside0.mk H
                          clear H
                          have p82017 : 0 ≤ (x7_2 : Int) := of_decide_eq_true (by first | (with_reducible assumption) | assumption)
                          have q82017 : x7_2 < (x4_2.length : Int) := of_decide_eq_true (by first | (with_reducible assumption) | assumption)
                          obtain ⟨ad82017, e82017, hx82017_0⟩ := Kd.at_bool (Kd.R_reads' HO_4.out).2.2 x7_2 p82017 q82017
                          (try rw [← Nbq8.out] at hx82017_0)
                          (try rw [← Nbq21.out] at hx82017_0)
                          obtain rfl := Option.some.inj e82017
                          replace p82017 := eq_true p82017
                          replace q82017 := eq_true q82017
                          have p82018 : 0 ≤ (x7_2 : Int) := of_decide_eq_true (by first | (with_reducible assumption) | assumption)
                          have q82018 : x7_2 < (t82008.length : Int) := of_decide_eq_true (by first | (with_reducible assumption) | assumption)
                          obtain ⟨ad82018, e82018, hx82018_0⟩ := Kd.at_bool (Kd.R_reads' HO_6.out).2.2 x7_2 p82018 q82018
                          (try rw [← Nbq8.out] at hx82018_0)
                          (try rw [← Nbq21.out] at hx82018_0)
                          cases e82018
                          replace p82018 := eq_true p82018
                          replace q82018 := eq_true q82018
                          have p24 : 0 ≤ (x7_2 : Int) := of_decide_eq_true (by first | (with_reducible assumption) | assumption)
                          have q24 : (x7_2 : Int) < ((x4_2.length : Int) : Int) := of_decide_eq_true (by first | (with_reducible assumption) | assumption)
                          obtain ⟨go24, co24, eo24, gb24, gl24, cl24, HG24⟩ := Kd.R_form HO_4.out (by omega)
                          (first | cases eo24 | (injection eo24 with ea_ en_ ec_; (first | subst ea_ | (injection ea_ with ea_; subst ea_)); subst ec_; clear en_))
                          have GB24 := Aside0.mk gb24
                          have GG24 := Aside0.mk HG24
                          clear gb24 gl24 HG24
                          (first | simp only [add_plain] at hx82007_0 | skip)
                          (first | simp only [add_plain] at hx82017_0 | skip)
                          obtain ⟨hx24_0, hf24_0⟩ := Kd.R_celln false HO_4.out (x7_2 : Int) p24 q24
                          replace p24 := eq_true p24
                          replace q24 := eq_true q24
                          have HP25 := Kd.R_putg HO_4.out (x7_2 : Int) (!(rdOf false t82008 x7_2))
                          go_wp2_with (first | ((with_reducible refine gate_store (t := 4) (p := 48) rfl ?_); refine store_event (t := 4) (p := 48) (v := ?vo_w26) (w1 := (wr.setCell ⟨gz_82007, (x7_2 : Int).toNat, none⟩ (.bool (!(rdOf false t82008 x7_2))))) ?hg ?ho ?hn ?hr ?_; (case ho => rfl); (case hg => rfl); (case hn => rfl); (case hr => first | (go_simp; done) | (go_simp; rfl)); intro w26 hw; have hg : wr.grownBy w26 (some gz_82007) := (by rw [hw]; exact HP25.2); have hp_ : Kd.R Kd.bool 4 w26 w.heap.size (fun k_ => some k_ ≠ (.slice (some ad82018) t82008.length co15 : Value).ownBlock) (.slice (some ⟨gz_82007, 0, none⟩) x4_2.length co13) y82019 := (by rw [hw, Ny82019.out]; exact HP25.1); clear HP25; have n0_ := Aside0.mk (Kd.S_over' (v := (.slice (some ⟨gz_82007, 0, none⟩) x4_2.length co13)) (by (with_reducible repeat (first | apply Kd.S_alloc | apply Kd.S_drewN | apply Kd.S_drew)); exact HO_3.out) (Kd.R_typed HO_4.out) (by decide) hg); have n1_ := Aside0.mk (hp_); have n2_ := Aside0.mk (Kd.R_after (v := (.slice (some ⟨gz_82007, 0, none⟩) x4_2.length co13)) (v1 := (.slice (some ⟨gz_82007, 0, none⟩) x4_2.length co13)) (ok := (fun _ => True)) (by (with_reducible repeat (first | apply Kd.R_alloc | apply Kd.R_drewN | apply Kd.R_drew)); exact Kd.R_mono HO_6.out (fun _ hk => ⟨trivial, hk⟩)) hg (.inl rfl)); have n3_ := Aside0.mk ((by rw [hw]; exact below_set (HB.out) GB24.out : Below w.heap.size w w26)); clear HO_3; clear HO_4; clear HO_6; clear HB; have HO_3 := n0_; have HO_4 := n1_; have HO_6 := n2_; have HB := n3_; clear n0_ n1_ n2_ n3_; clear hg hw hp_))
                          (try simp only [← hl4_2])
                          go_roundg k2
                          case measure => have := HK1.out; have := HK2.out; omega
                          case rel => exact ⟨(y82019), (wrap64 (x7_2 + 1)), (by first | rfl | (simp; done) | (simp [*]; done)), H', ⟨by have := HK1.out; have := HK2.out; omega⟩, ⟨by (try simp only [hl4_2]); (with_reducible repeat (first | apply Kd.S_alloc | apply Kd.S_drewN | apply Kd.S_drew)); exact HO_3.out⟩, ⟨by (try simp only [hl4_2]); (with_reducible repeat (first | apply Kd.R_alloc | apply Kd.R_drewN | apply Kd.R_drew)); exact HO_4.out⟩, ⟨by (try simp only [hl4_2]); (with_reducible repeat (first | apply Kd.R_alloc | apply Kd.R_drewN | apply Kd.R_drew)); exact Kd.R_mono HO_6.out (fun _ hk => hk.2)⟩, ⟨by repeat (first | (with_reducible first | exact HB.out | apply below_alloc | apply pw_below_drewN | apply below_drew1) | exact HB.out)⟩⟩
                        · rw [if_neg c23] at H
                          exact absurd H (by simp)
                      · replace c22 := Bool.eq_false_iff.mpr c22
                        subst c22
                        have H1 : (spec_parts.l1 k2 y82014 (x4_2.set (x7_2 : Int).toNat false) x5_1 t82008 (wrap64 (x7_2 + 1))) = some r := by rw [if_neg (show ¬ (false = true) by decide)] at H; exact H
                        clear H
                        have H := H1
                        clear H1
                        obtain ⟨y82020, hy82020⟩ : ∃ y_ : List Bool, y_ = (x4_2.set (x7_2 : Int).toNat false) := ⟨_, rfl⟩
                        replace H : (spec_parts.l1 k2 y82014 y82020 x5_1 t82008 (wrap64 (x7_2 + 1))) = some r := by first | (rw [hy82020]; with_reducible exact H) | (have H2_ := (Option.bind_some _ _).symm.trans H; rw [hy82020]; with_reducible exact H2_) | (have H2_ := (Option.bind_some _ _).symm.trans H; with_reducible exact H2_) | with_reducible exact H | (rw [hy82020]; exact H) | exact H
                        have Ny82020 := Aside0.mk hy82020
                        clear hy82020
                        have H' := Aside0.mk H
                        clear H
                        have p82017 : 0 ≤ (x7_2 : Int) := of_decide_eq_true (by first | (with_reducible assumption) | assumption)
                        have q82017 : x7_2 < (x4_2.length : Int) := of_decide_eq_true (by first | (with_reducible assumption) | assumption)
                        obtain ⟨ad82017, e82017, hx82017_0⟩ := Kd.at_bool (Kd.R_reads' HO_4.out).2.2 x7_2 p82017 q82017
                        (try rw [← Nbq8.out] at hx82017_0)
                        (try rw [← Nbq21.out] at hx82017_0)
                        obtain rfl := Option.some.inj e82017
                        replace p82017 := eq_true p82017
                        replace q82017 := eq_true q82017
                        have p27 : 0 ≤ (x7_2 : Int) := of_decide_eq_true (by first | (with_reducible assumption) | assumption)
                        have q27 : (x7_2 : Int) < ((x4_2.length : Int) : Int) := of_decide_eq_true (by first | (with_reducible assumption) | assumption)
                        obtain ⟨go27, co27, eo27, gb27, gl27, cl27, HG27⟩ := Kd.R_form HO_4.out (by omega)
                        (first | cases eo27 | (injection eo27 with ea_ en_ ec_; (first | subst ea_ | (injection ea_ with ea_; subst ea_)); subst ec_; clear en_))
                        have GB27 := Aside0.mk gb27
                        have GG27 := Aside0.mk HG27
                        clear gb27 gl27 HG27
                        (first | simp only [add_plain] at hx82017_0 | skip)
                        obtain ⟨hx27_0, hf27_0⟩ := Kd.R_celln false HO_4.out (x7_2 : Int) p27 q27
                        replace p27 := eq_true p27
                        replace q27 := eq_true q27
                        have HP28 := Kd.R_putg HO_4.out (x7_2 : Int) false
                        go_wp2_with (first | ((with_reducible refine gate_store (t := 4) (p := 48) rfl ?_); refine store_event (t := 4) (p := 48) (v := ?vo_w29) (w1 := (wr.setCell ⟨gz_82007, (x7_2 : Int).toNat, none⟩ (.bool false))) ?hg ?ho ?hn ?hr ?_; (case ho => rfl); (case hg => rfl); (case hn => rfl); (case hr => first | (go_simp; done) | (go_simp; rfl)); intro w29 hw; have hg : wr.grownBy w29 (some gz_82007) := (by rw [hw]; exact HP28.2); have hp_ : Kd.R Kd.bool 4 w29 w.heap.size (fun k_ => some k_ ≠ (.slice Ao15 t82008.length co15 : Value).ownBlock) (.slice (some ⟨gz_82007, 0, none⟩) x4_2.length co13) y82020 := (by rw [hw, Ny82020.out]; exact HP28.1); clear HP28; have n0_ := Aside0.mk (Kd.S_over' (v := (.slice (some ⟨gz_82007, 0, none⟩) x4_2.length co13)) (by (with_reducible repeat (first | apply Kd.S_alloc | apply Kd.S_drewN | apply Kd.S_drew)); exact HO_3.out) (Kd.R_typed HO_4.out) (by decide) hg); have n1_ := Aside0.mk (hp_); have n2_ := Aside0.mk (Kd.R_after (v := (.slice (some ⟨gz_82007, 0, none⟩) x4_2.length co13)) (v1 := (.slice (some ⟨gz_82007, 0, none⟩) x4_2.length co13)) (ok := (fun _ => True)) (by (with_reducible repeat (first | apply Kd.R_alloc | apply Kd.R_drewN | apply Kd.R_drew)); exact Kd.R_mono HO_6.out (fun _ hk => ⟨trivial, hk⟩)) hg (.inl rfl)); have n3_ := Aside0.mk ((by rw [hw]; exact below_set (HB.out) GB27.out : Below w.heap.size w w29)); clear HO_3; clear HO_4; clear HO_6; clear HB; have HO_3 := n0_; have HO_4 := n1_; have HO_6 := n2_; have HB := n3_; clear n0_ n1_ n2_ n3_; clear hg hw hp_))
                        (try simp only [← hl4_2])
                        go_roundg k2
                        case measure => have := HK1.out; have := HK2.out; omega
                        case rel => exact ⟨(y82020), (wrap64 (x7_2 + 1)), (by first | rfl | (simp; done) | (simp [*]; done)), H', ⟨by have := HK1.out; have := HK2.out; omega⟩, ⟨by (try simp only [hl4_2]); (with_reducible repeat (first | apply Kd.S_alloc | apply Kd.S_drewN | apply Kd.S_drew)); exact HO_3.out⟩, ⟨by (try simp only [hl4_2]); (with_reducible repeat (first | apply Kd.R_alloc | apply Kd.R_drewN | apply Kd.R_drew)); exact HO_4.out⟩, ⟨by (try simp only [hl4_2]); (with_reducible repeat (first | apply Kd.R_alloc | apply Kd.R_drewN | apply Kd.R_drew)); exact Kd.R_mono HO_6.out (fun _ hk => hk.2)⟩, ⟨by repeat (first | (with_reducible first | exact HB.out | apply below_alloc | apply pw_below_drewN | apply below_drew1) | exact HB.out)⟩⟩
                    · rw [if_neg c20] at H
                      exact absurd H (by simp)
                  · rw [if_neg c19] at H
                    have c19b0 : decide (x7_2 < (x4_2.length : Int)) = false := decide_eq_false c19
                    clear c19
                    have H' := Aside0.mk H
                    clear H
                    go_wp2
                    (try simp only [← hl4_2])
                    go_roundg k2
                    case measure => have := HK1.out; have := HK2.out; omega
                    case rel => exact ⟨(y82014), (x4_2), (wrap64 (x5_1 + 1)), (by first | rfl | (simp; done) | (simp [*]; done)), H', ⟨by have := HK1.out; have := HK2.out; omega⟩, ⟨by (try simp only [hl4_2]); (with_reducible repeat (first | apply Kd.S_alloc | apply Kd.S_drewN | apply Kd.S_drew)); exact HO_3.out⟩, ⟨by (try simp only [hl4_2]); (with_reducible repeat (first | apply Kd.R_alloc | apply Kd.R_drewN | apply Kd.R_drew)); exact Kd.R_mono HO_4.out (fun _ hk => trivial)⟩, ⟨by repeat (first | (with_reducible first | exact HB.out | apply below_alloc | apply pw_below_drewN | apply below_drew1) | exact HB.out)⟩⟩
            · rw [if_neg c12] at H
              exact absurd H (by simp)
          · replace c9 := Bool.eq_false_iff.mpr c9
            subst c9
            have H1 : (spec_parts.l0 k1 x3_1 x4_1 (wrap64 (x5_1 + 1))) = some r := by rw [if_neg (show ¬ (false = true) by decide)] at H; exact H
            clear H
            have H := H1
            clear H1
            have H' := Aside0.mk H
            clear H
            obtain ⟨Ao30, co30, eo30⟩ := Kd.R_slice HO_4.out
            subst eo30
            have p82007 : 0 ≤ (x5_1 : Int) := of_decide_eq_true (by first | (with_reducible assumption) | assumption)
            have q82007 : x5_1 < (x4_1.length : Int) := of_decide_eq_true (by first | (with_reducible assumption) | assumption)
            obtain ⟨ad82007, e82007, hx82007_0⟩ := Kd.at_bool (Kd.R_reads' HO_4.out).2.2 x5_1 p82007 q82007
            (try rw [← Nbq8.out] at hx82007_0)
            cases e82007
            obtain ⟨gz_82007, cz_, ez_, _, _, _⟩ := Kd.R_form HO_4.out (by omega)
            (first | cases ez_ | (injection ez_ with ea_ en_ ec_; injection ea_ with ea_; subst ea_; subst ec_; clear en_))
            rw [add_at, Nat.zero_add] at hx82007_0
            replace p82007 := eq_true p82007
            replace q82007 := eq_true q82007
            go_wp2
            go_roundg k1
            case measure => have := HK1.out; omega
            case rel => exact ⟨(x3_1), (x4_1), (wrap64 (x5_1 + 1)), (by first | rfl | (simp; done) | (simp [*]; done)), H', ⟨by have := HK1.out; omega⟩, ⟨by (with_reducible repeat (first | apply Kd.S_alloc | apply Kd.S_drewN | apply Kd.S_drew)); exact HO_3.out⟩, ⟨by (with_reducible repeat (first | apply Kd.R_alloc | apply Kd.R_drewN | apply Kd.R_drew)); exact HO_4.out⟩, ⟨by repeat (first | (with_reducible first | exact HB.out | apply below_alloc | apply pw_below_drewN | apply below_drew1) | exact HB.out)⟩⟩
        · rw [if_neg c7] at H
          exact absurd H (by simp)
      · rw [if_neg c6] at H
        have c6b0 : decide (x5_1 < (x4_1.length : Int)) = false := decide_eq_false c6
        clear c6
        obtain rfl := Option.some.inj H
        obtain ⟨Ao31, co31, eo31⟩ := Kd.R_slice HO_4.out
        subst eo31
        go_wp2
        go_ret
        exact ⟨_, by first | rfl | (simp [errW_none, errW_some] <;> rfl) | (simp [*, errW_none, errW_some] <;> rfl), by (with_reducible repeat (first | apply Kd.S_alloc | apply Kd.S_drewN | apply Kd.S_drew)); exact HO_3.out, by repeat (first | (with_reducible first | exact HB.out | apply below_alloc | apply pw_below_drewN | apply below_drew1) | exact HB.out)⟩

end Go.Proofs.Ytfgeickfheogoaa.Q

namespace Go.Proofs.Ytfgeickfheogoaa.Q
open Go.RowKit Go.Proofs.YtfgeickfheogoaaW.PrintWords Go.Proofs.YtfgeickfheogoaaW.PrintLast Go.Proofs.YtfgeickfheogoaaW.PrintMore
attribute [local go_sem] max2_int min2_int max_two min_two max_three min_three max_four min_four
set_option linter.unusedVariables false
set_option linter.unusedSimpArgs false
/-! ### spec_PartsOf: function 48 -/
noncomputable def spec_PartsOf.f (k : Nat) (l0 : List (S57)) : Option ((List (List (S57)))) := (spec_validRuns.f k l0).bind fun t49001 => (if t49001 = true then ((spec_parts.f k l0).bind fun t49002 => (some t49002)) else (some ([] : List (List (S57)))))
theorem spec_PartsOf.mono : ∀ a0 k, LeO (spec_PartsOf.f k a0) (spec_PartsOf.f (k + 1) a0) := by
  intro a0 k
  unfold spec_PartsOf.f
  repeat' first
      | (with_reducible exact spec_parts.mono _ _)
      | (with_reducible exact spec_validRuns.mono _ _)
      | (with_reducible exact LeO.refl _)
      | (with_reducible exact LeO.none _)
      | (with_reducible refine LeO.ite ?_ ?_)
      | (with_reducible refine LeO.bind ?_ (fun _ => ?_))
      | exact spec_parts.mono _ _
      | exact spec_validRuns.mono _ _
      | exact LeO.none _
      | refine LeO.ite ?_ ?_
      | refine LeO.bind ?_ (fun _ => ?_)
set_option maxHeartbeats 8000000 in
set_option maxRecDepth 100000 in
theorem spec_PartsOf.calls (k : Nat) (A0 : Option Addr) (c0 : Nat) (l0 : List (S57)) (r : List (List (S57))) (w : World) (hr0 : Kd.C k57 w A0 l0.length l0) (hc0 : l0.length ≤ c0) (h : spec_PartsOf.f k l0 = some r) :
    Calls Try.prog 48 #[.slice A0 l0.length c0] w fun e w' => ∃ v0_ : Value, e = .returned (v0_) ∧ Kd.S (Kd.slice 57 k57) 25 w' w.heap.size (fun _ => True) v0_ r ∧ Below w.heap.size w w' := by
  have HR0 := Aside0.mk hr0
  have HC0 := Aside0.mk hc0
  clear hr0 hc0
  have HB := Aside0.mk (Below.refl w.heap.size w)
  have H : ((spec_validRuns.f k l0).bind fun t49001 => (if t49001 = true then ((spec_parts.f k l0).bind fun t49002 => (some t49002)) else (some ([] : List (List (S57)))))) = some r := h
  clear h
  replace H := Option.bind_eq_some_iff.mp H
  obtain ⟨t49001, A20, H⟩ := H
  replace H : (if t49001 = true then ((spec_parts.f k l0).bind fun t49002 => (some t49002)) else (some ([] : List (List (S57))))) = some r := H
  have A2 := Aside0.mk A20
  clear A20
  by_cases c3 : t49001 = true
  · subst c3
    have H1 : ((spec_parts.f k l0).bind fun t49002 => (some t49002)) = some r := by rw [if_pos rfl] at H; exact H
    clear H
    have H := H1
    clear H1
    replace H := Option.bind_eq_some_iff.mp H
    obtain ⟨t49002, A40, H⟩ := H
    replace H : (some t49002) = some r := H
    have A4 := Aside0.mk A40
    clear A40
    obtain rfl := Option.some.inj H
    go_enter Try.func48, Try.ntmps48
    go_wp2_with (first | ((with_reducible refine gate_callee (f := 53) rfl ?_); refine goesL_ (some 4) rfl rfl Try.func53 (by kernel_rfl) rfl #[.slice A0 l0.length c0] rfl (by (try simp only [List.map_toArray, List.map_cons, List.map_nil]); first | done | rfl | (simp only [List.length_drop, List.length_take]; rfl)) ?_; (with_reducible refine (spec_validRuns.calls k _ _ l0 true _ ?side1 ?side2 A2.out).mono ?_); (case side1 => repeat (first | exact HR0.out | (with_reducible refine Kd.C_alloc ?_ _) | (with_reducible refine Kd.C_drewN ?_ _) | (with_reducible refine Kd.C_drew ?_))); (case side2 => exact HC0.out); rintro e w5 ⟨rfl, hb⟩; refine ⟨_, rfl, ?_⟩; have n0_ := Aside0.mk (below_step (by repeat (first | (with_reducible first | exact HB.out | apply below_alloc | apply pw_below_drewN | apply below_drew1) | exact HB.out)) hb); clear HB; have HB := n0_; clear n0_; (try clear hb); (try clear hb2); (try clear hk); (try clear hi)) | ((with_reducible refine gate_callee (f := 81) rfl ?_); refine goesL_ (some 7) rfl rfl Try.func81 (by kernel_rfl) rfl #[.slice A0 l0.length c0] rfl (by (try simp only [List.map_toArray, List.map_cons, List.map_nil]); first | done | rfl | (simp only [List.length_drop, List.length_take]; rfl)) ?_; (with_reducible refine (spec_parts.calls k _ _ l0 t49002 _ ?side1 ?side2 A4.out).mono ?_); (case side1 => repeat (first | exact (Kd.C_below HR0.out HB.out) | (with_reducible refine Kd.C_alloc ?_ _) | (with_reducible refine Kd.C_drewN ?_ _) | (with_reducible refine Kd.C_drew ?_))); (case side2 => exact HC0.out); rintro e w6 ⟨v49003, rfl, ho0, hb⟩; refine ⟨_, rfl, ?_⟩; have n0_ := Aside0.mk (Kd.S_lower ho0 (below_size (by repeat (first | (with_reducible first | exact HB.out | apply below_alloc | apply pw_below_drewN | apply below_drew1) | exact HB.out)))); have n1_ := Aside0.mk (below_step (by repeat (first | (with_reducible first | exact HB.out | apply below_alloc | apply pw_below_drewN | apply below_drew1) | exact HB.out)) hb); clear HB; have HO49004 := n0_; have HB := n1_; clear n0_ n1_; (try clear hb); (try clear hb2); (try clear hk); (try clear hi); (try clear ho0)))
    go_ret
    exact ⟨_, by first | rfl | (simp [errW_none, errW_some] <;> rfl) | (simp [*, errW_none, errW_some] <;> rfl), by (with_reducible repeat (first | apply Kd.S_alloc | apply Kd.S_drewN | apply Kd.S_drew)); exact HO49004.out, by repeat (first | (with_reducible first | exact HB.out | apply below_alloc | apply pw_below_drewN | apply below_drew1) | exact HB.out)⟩
  · replace c3 := Bool.eq_false_iff.mpr c3
    subst c3
    have H1 : (some ([] : List (List (S57)))) = some r := by rw [if_neg (show ¬ (false = true) by decide)] at H; exact H
    clear H
    have H := H1
    clear H1
    obtain rfl := Option.some.inj H
    go_enter Try.func48, Try.ntmps48
    go_wp2_with (first | ((with_reducible refine gate_callee (f := 53) rfl ?_); refine goesL_ (some 4) rfl rfl Try.func53 (by kernel_rfl) rfl #[.slice A0 l0.length c0] rfl (by (try simp only [List.map_toArray, List.map_cons, List.map_nil]); first | done | rfl | (simp only [List.length_drop, List.length_take]; rfl)) ?_; (with_reducible refine (spec_validRuns.calls k _ _ l0 false _ ?side1 ?side2 A2.out).mono ?_); (case side1 => repeat (first | exact HR0.out | (with_reducible refine Kd.C_alloc ?_ _) | (with_reducible refine Kd.C_drewN ?_ _) | (with_reducible refine Kd.C_drew ?_))); (case side2 => exact HC0.out); rintro e w7 ⟨rfl, hb⟩; refine ⟨_, rfl, ?_⟩; have n0_ := Aside0.mk (below_step (by repeat (first | (with_reducible first | exact HB.out | apply below_alloc | apply pw_below_drewN | apply below_drew1) | exact HB.out)) hb); clear HB; have HB := n0_; clear n0_; (try clear hb); (try clear hb2); (try clear hk); (try clear hi)))
    go_ret
    exact ⟨_, by first | rfl | (simp [errW_none, errW_some] <;> rfl) | (simp [*, errW_none, errW_some] <;> rfl), by first | exact Kd.S_nil _ _ _ _ _ | exact Kd.N_nil _ _ _ _ _ | exact Kd.V_nil _ _ _ _ _ | exact Kd.Q_nil _ _ _ _ _ | exact Kd.R_nil _ _ _ _ _, by repeat (first | (with_reducible first | exact HB.out | apply below_alloc | apply pw_below_drewN | apply below_drew1) | exact HB.out)⟩

end Go.Proofs.Ytfgeickfheogoaa.Q
