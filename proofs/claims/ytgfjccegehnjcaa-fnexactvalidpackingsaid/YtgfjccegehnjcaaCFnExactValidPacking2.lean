/- A part of the proof that the statement FnExactValidPackingSaid holds, under no condition of its own: The program's ValidPacking and the reference's answer the same, and leave their boxes alone: over lists of numbers alone. -/
import Derived.Test.YtgfjccegehnjcaaCFnExactValidPacking1
import Derived.Deep.Slices
import Derived.Deep.Fields
import Derived.ChangeSame
import Derived.ProofKit
import Derived.OpenShut
import Derived.ShutString
import Derived.ChangeOld
import Derived.SizedLaws
import GoSem.Claim
import Derived.Shelf.Abstract
import Derived.Test.YtgfjccegehnjcaaRows
import Derived.JoinedOf
import Derived.KernelRfl
import Derived.WalkKit
import Derived.Below
import Derived.Carry
namespace Go.Proofs.Ytgfjccegehnjcaa.Q
open Go.RowKit Go.Proofs.YtgfjccegehnjcaaW.PrintWords Go.Proofs.YtgfjccegehnjcaaW.PrintLast Go.Proofs.YtgfjccegehnjcaaW.PrintMore
attribute [local go_sem] max2_int min2_int max_two min_two max_three min_three max_four min_four
set_option linter.unusedVariables false
set_option linter.unusedSimpArgs false
/-! ### impl_ValidPacking: function 22 -/
mutual
def impl_ValidPacking.j0 : Nat → List (S50) → Int → Int → Bool → Option (Bool)
  | 0, _, _, _, _ => none
  | k + 1, x0, x1, x2, x29 => if x29 = true then (some false) else (impl_ValidPacking.l0 k x0 x1 x2 x0 (x0.length : Int) 0)
def impl_ValidPacking.l0 : Nat → List (S50) → Int → Int → List (S50) → Int → Int → Option (Bool)
  | 0, _, _, _, _, _, _ => none
  | k + 1, x0, x1, x2, x30, x31, x32 => if x32 < x31 then (if 0 ≤ x32 then (if x32 < (x30.length : Int) then (if ((rd_T50 x30 x32).f0) < 0 then (impl_ValidPacking.j2 k x0 x1 x2 x32 x30 x31 x32 true ((rd_T50 x30 x32).f0) ((rd_T50 x30 x32).f1) ((rd_T50 x30 x32).f2) ((rd_T50 x30 x32).f3)) else (if ((rd_T50 x30 x32).f0) > x1 then (impl_ValidPacking.j2 k x0 x1 x2 x32 x30 x31 x32 true ((rd_T50 x30 x32).f0) ((rd_T50 x30 x32).f1) ((rd_T50 x30 x32).f2) ((rd_T50 x30 x32).f3)) else (if ((rd_T50 x30 x32).f1) < 0 then (impl_ValidPacking.j2 k x0 x1 x2 x32 x30 x31 x32 true ((rd_T50 x30 x32).f0) ((rd_T50 x30 x32).f1) ((rd_T50 x30 x32).f2) ((rd_T50 x30 x32).f3)) else (if ((rd_T50 x30 x32).f1) > x2 then (impl_ValidPacking.j2 k x0 x1 x2 x32 x30 x31 x32 true ((rd_T50 x30 x32).f0) ((rd_T50 x30 x32).f1) ((rd_T50 x30 x32).f2) ((rd_T50 x30 x32).f3)) else (if ((rd_T50 x30 x32).f2) < 1 then (impl_ValidPacking.j2 k x0 x1 x2 x32 x30 x31 x32 true ((rd_T50 x30 x32).f0) ((rd_T50 x30 x32).f1) ((rd_T50 x30 x32).f2) ((rd_T50 x30 x32).f3)) else (if ((rd_T50 x30 x32).f2) > (wrap64 (x1 - ((rd_T50 x30 x32).f0))) then (impl_ValidPacking.j2 k x0 x1 x2 x32 x30 x31 x32 true ((rd_T50 x30 x32).f0) ((rd_T50 x30 x32).f1) ((rd_T50 x30 x32).f2) ((rd_T50 x30 x32).f3)) else (if ((rd_T50 x30 x32).f3) < 1 then (impl_ValidPacking.j2 k x0 x1 x2 x32 x30 x31 x32 true ((rd_T50 x30 x32).f0) ((rd_T50 x30 x32).f1) ((rd_T50 x30 x32).f2) ((rd_T50 x30 x32).f3)) else (impl_ValidPacking.j2 k x0 x1 x2 x32 x30 x31 x32 (decide (((rd_T50 x30 x32).f3) > (wrap64 (x2 - ((rd_T50 x30 x32).f1))))) ((rd_T50 x30 x32).f0) ((rd_T50 x30 x32).f1) ((rd_T50 x30 x32).f2) ((rd_T50 x30 x32).f3))))))))) else (none)) else (none)) else (some true)
def impl_ValidPacking.j2 : Nat → List (S50) → Int → Int → Int → List (S50) → Int → Int → Bool → Int → Int → Int → Int → Option (Bool)
  | 0, _, _, _, _, _, _, _, _, _, _, _, _ => none
  | k + 1, x0, x1, x2, x7, x30, x31, x32, x84, x23003000, x23003001, x23003002, x23003003 => if x84 = true then (some false) else (if 0 ≤ x7 then (if x7 ≤ (x0.length : Int) then ((some (x0.take (x7 : Int).toNat : List (S50))).bind fun y23003 => (impl_ValidPacking.l1 k x0 x1 x2 x30 x31 x32 y23003 (y23003.length : Int) 0 x23003000 x23003001 x23003002 x23003003)) else (none)) else (none))
def impl_ValidPacking.l1 : Nat → List (S50) → Int → Int → List (S50) → Int → Int → List (S50) → Int → Int → Int → Int → Int → Int → Option (Bool)
  | 0, _, _, _, _, _, _, _, _, _, _, _, _, _ => none
  | k + 1, x0, x1, x2, x30, x31, x32, x87, x88, x89, x23003000, x23003001, x23003002, x23003003 => if x89 < x88 then (if 0 ≤ x89 then (if x89 < (x87.length : Int) then (if x23003000 < (wrap64 (((rd_T50 x87 x89).f0) + ((rd_T50 x87 x89).f2))) then (if ((rd_T50 x87 x89).f0) < (wrap64 (x23003000 + x23003002)) then (if x23003001 < (wrap64 (((rd_T50 x87 x89).f1) + ((rd_T50 x87 x89).f3))) then (if ((rd_T50 x87 x89).f1) < (wrap64 (x23003001 + x23003003)) then (some false) else (impl_ValidPacking.l1 k x0 x1 x2 x30 x31 x32 x87 x88 (wrap64 (x89 + 1)) x23003000 x23003001 x23003002 x23003003)) else (impl_ValidPacking.l1 k x0 x1 x2 x30 x31 x32 x87 x88 (wrap64 (x89 + 1)) x23003000 x23003001 x23003002 x23003003)) else (impl_ValidPacking.l1 k x0 x1 x2 x30 x31 x32 x87 x88 (wrap64 (x89 + 1)) x23003000 x23003001 x23003002 x23003003)) else (impl_ValidPacking.l1 k x0 x1 x2 x30 x31 x32 x87 x88 (wrap64 (x89 + 1)) x23003000 x23003001 x23003002 x23003003)) else (none)) else (none)) else (impl_ValidPacking.l0 k x0 x1 x2 x30 x31 (wrap64 (x32 + 1)))
end
def impl_ValidPacking.f (k : Nat) (l0 : List (S50)) (a1 : Int) (a2 : Int) : Option (Bool) := if (l0.length : Int) > 12 then (impl_ValidPacking.j0 k l0 a1 a2 true) else (if a1 < 1 then (impl_ValidPacking.j0 k l0 a1 a2 true) else (if a1 > 64 then (impl_ValidPacking.j0 k l0 a1 a2 true) else (if a2 < 0 then (impl_ValidPacking.j0 k l0 a1 a2 true) else (impl_ValidPacking.j0 k l0 a1 a2 (decide (a2 > 192))))))
theorem impl_ValidPacking.mono_l : ∀ k, (∀ y0 y1 y2 y3, LeO (impl_ValidPacking.j0 k y0 y1 y2 y3) (impl_ValidPacking.j0 (k + 1) y0 y1 y2 y3)) ∧ (∀ y0 y1 y2 y3 y4 y5, LeO (impl_ValidPacking.l0 k y0 y1 y2 y3 y4 y5) (impl_ValidPacking.l0 (k + 1) y0 y1 y2 y3 y4 y5)) ∧ (∀ y0 y1 y2 y3 y4 y5 y6 y7 y8 y9 y10 y11, LeO (impl_ValidPacking.j2 k y0 y1 y2 y3 y4 y5 y6 y7 y8 y9 y10 y11) (impl_ValidPacking.j2 (k + 1) y0 y1 y2 y3 y4 y5 y6 y7 y8 y9 y10 y11)) ∧ (∀ y0 y1 y2 y3 y4 y5 y6 y7 y8 y9 y10 y11 y12, LeO (impl_ValidPacking.l1 k y0 y1 y2 y3 y4 y5 y6 y7 y8 y9 y10 y11 y12) (impl_ValidPacking.l1 (k + 1) y0 y1 y2 y3 y4 y5 y6 y7 y8 y9 y10 y11 y12))
  | 0 => ⟨fun _ _ _ _ r h => by simp [impl_ValidPacking.j0] at h, fun _ _ _ _ _ _ r h => by simp [impl_ValidPacking.l0] at h, fun _ _ _ _ _ _ _ _ _ _ _ _ r h => by simp [impl_ValidPacking.j2] at h, fun _ _ _ _ _ _ _ _ _ _ _ _ _ r h => by simp [impl_ValidPacking.l1] at h⟩
  | k + 1 => by
    obtain ⟨ih0, ih1, ih2, ih3⟩ := impl_ValidPacking.mono_l k
    refine ⟨?_, ?_, ?_, ?_⟩
    · intro y0 y1 y2 y3
      unfold impl_ValidPacking.j0
      repeat' first
      | (with_reducible exact ih0 _ _ _ _)
      | (with_reducible exact ih1 _ _ _ _ _ _)
      | (with_reducible exact ih2 _ _ _ _ _ _ _ _ _ _ _ _)
      | (with_reducible exact ih3 _ _ _ _ _ _ _ _ _ _ _ _ _)
      | (with_reducible exact LeO.refl _)
      | (with_reducible exact LeO.none _)
      | (with_reducible refine LeO.ite ?_ ?_)
      | (with_reducible refine LeO.bind ?_ (fun _ => ?_))
      | exact ih0 _ _ _ _
      | exact ih1 _ _ _ _ _ _
      | exact ih2 _ _ _ _ _ _ _ _ _ _ _ _
      | exact ih3 _ _ _ _ _ _ _ _ _ _ _ _ _
      | exact LeO.none _
      | refine LeO.ite ?_ ?_
      | refine LeO.bind ?_ (fun _ => ?_)
    · intro y0 y1 y2 y3 y4 y5
      unfold impl_ValidPacking.l0
      repeat' first
      | (with_reducible exact ih0 _ _ _ _)
      | (with_reducible exact ih1 _ _ _ _ _ _)
      | (with_reducible exact ih2 _ _ _ _ _ _ _ _ _ _ _ _)
      | (with_reducible exact ih3 _ _ _ _ _ _ _ _ _ _ _ _ _)
      | (with_reducible exact LeO.refl _)
      | (with_reducible exact LeO.none _)
      | (with_reducible refine LeO.ite ?_ ?_)
      | (with_reducible refine LeO.bind ?_ (fun _ => ?_))
      | exact ih0 _ _ _ _
      | exact ih1 _ _ _ _ _ _
      | exact ih2 _ _ _ _ _ _ _ _ _ _ _ _
      | exact ih3 _ _ _ _ _ _ _ _ _ _ _ _ _
      | exact LeO.none _
      | refine LeO.ite ?_ ?_
      | refine LeO.bind ?_ (fun _ => ?_)
    · intro y0 y1 y2 y3 y4 y5 y6 y7 y8 y9 y10 y11
      unfold impl_ValidPacking.j2
      repeat' first
      | (with_reducible exact ih0 _ _ _ _)
      | (with_reducible exact ih1 _ _ _ _ _ _)
      | (with_reducible exact ih2 _ _ _ _ _ _ _ _ _ _ _ _)
      | (with_reducible exact ih3 _ _ _ _ _ _ _ _ _ _ _ _ _)
      | (with_reducible exact LeO.refl _)
      | (with_reducible exact LeO.none _)
      | (with_reducible refine LeO.ite ?_ ?_)
      | (with_reducible refine LeO.bind ?_ (fun _ => ?_))
      | exact ih0 _ _ _ _
      | exact ih1 _ _ _ _ _ _
      | exact ih2 _ _ _ _ _ _ _ _ _ _ _ _
      | exact ih3 _ _ _ _ _ _ _ _ _ _ _ _ _
      | exact LeO.none _
      | refine LeO.ite ?_ ?_
      | refine LeO.bind ?_ (fun _ => ?_)
    · intro y0 y1 y2 y3 y4 y5 y6 y7 y8 y9 y10 y11 y12
      unfold impl_ValidPacking.l1
      repeat' first
      | (with_reducible exact ih0 _ _ _ _)
      | (with_reducible exact ih1 _ _ _ _ _ _)
      | (with_reducible exact ih2 _ _ _ _ _ _ _ _ _ _ _ _)
      | (with_reducible exact ih3 _ _ _ _ _ _ _ _ _ _ _ _ _)
      | (with_reducible exact LeO.refl _)
      | (with_reducible exact LeO.none _)
      | (with_reducible refine LeO.ite ?_ ?_)
      | (with_reducible refine LeO.bind ?_ (fun _ => ?_))
      | exact ih0 _ _ _ _
      | exact ih1 _ _ _ _ _ _
      | exact ih2 _ _ _ _ _ _ _ _ _ _ _ _
      | exact ih3 _ _ _ _ _ _ _ _ _ _ _ _ _
      | exact LeO.none _
      | refine LeO.ite ?_ ?_
      | refine LeO.bind ?_ (fun _ => ?_)
theorem impl_ValidPacking.mono : ∀ a0 a1 a2 k, LeO (impl_ValidPacking.f k a0 a1 a2) (impl_ValidPacking.f (k + 1) a0 a1 a2) := by
  intro a0 a1 a2 k
  obtain ⟨ih0, ih1, ih2, ih3⟩ := impl_ValidPacking.mono_l k
  unfold impl_ValidPacking.f
  repeat' first
      | (with_reducible exact ih0 _ _ _ _)
      | (with_reducible exact ih1 _ _ _ _ _ _)
      | (with_reducible exact ih2 _ _ _ _ _ _ _ _ _ _ _ _)
      | (with_reducible exact ih3 _ _ _ _ _ _ _ _ _ _ _ _ _)
      | (with_reducible exact LeO.refl _)
      | (with_reducible exact LeO.none _)
      | (with_reducible refine LeO.ite ?_ ?_)
      | (with_reducible refine LeO.bind ?_ (fun _ => ?_))
      | exact ih0 _ _ _ _
      | exact ih1 _ _ _ _ _ _
      | exact ih2 _ _ _ _ _ _ _ _ _ _ _ _
      | exact ih3 _ _ _ _ _ _ _ _ _ _ _ _ _
      | exact LeO.none _
      | refine LeO.ite ?_ ?_
      | refine LeO.bind ?_ (fun _ => ?_)
set_option maxHeartbeats 8000000 in
set_option maxRecDepth 100000 in
theorem impl_ValidPacking.calls (k : Nat) (A0 : Option Addr) (c0 : Nat) (l0 : List (S50)) (a1 : Int) (a2 : Int) (r : Bool) (w : World) (hr0 : Kd.C k50 w A0 l0.length l0) (hc0 : l0.length ≤ c0) (h : impl_ValidPacking.f k l0 a1 a2 = some r) :
    Calls Try.prog 22 #[.slice A0 l0.length c0, .int .i64 a1, .int .i64 a2] w fun e w' => e = .returned (.bool r) ∧ Below w.heap.size w w' := by
  have hu50 := Try.underlying50
  have HR0 := Aside0.mk hr0
  have HC0 := Aside0.mk hc0
  clear hr0 hc0
  have HB := Aside0.mk (Below.refl w.heap.size w)
  have H : (if (l0.length : Int) > 12 then (impl_ValidPacking.j0 k l0 a1 a2 true) else (if a1 < 1 then (impl_ValidPacking.j0 k l0 a1 a2 true) else (if a1 > 64 then (impl_ValidPacking.j0 k l0 a1 a2 true) else (if a2 < 0 then (impl_ValidPacking.j0 k l0 a1 a2 true) else (impl_ValidPacking.j0 k l0 a1 a2 (decide (a2 > 192))))))) = some r := h
  clear h
  have HC4 := Aside0.mk H
  clear H
  go_enter Try.func22, Try.ntmps22
  go_upto_region 1 with (fail)
  go_cut [29] (fun v29 wc => ∃ (kq : Nat) (x29_3 : Bool), v29 = .bool x29_3 ∧ Aside0 (impl_ValidPacking.j0 kq l0 a1 a2 x29_3 = some r) ∧ Aside0 (kq ≤ k) ∧ Aside0 (Below w.heap.size w wc))
  case first =>
    have H := HC4.out
    clear HC4
    by_cases c5 : (l0.length : Int) > 12
    · rw [if_pos c5] at H
      have c5b0 : decide (12 < (l0.length : Int)) = true := decide_eq_true c5
      have c5b1 : decide (12 < l0.length) = true := decide_eq_true (by omega)
      clear c5
      (first | rw [c5b0] | (simp only [i64_w, i32_w]; rw [c5b0]) | skip)
      have H' := Aside0.mk H
      clear H
      go_wp2
      go_meet
      case rel => exact ⟨_, (true), (by first | rfl | (simp; done) | (simp [*]; done)), H', ⟨by first | omega | exact Nat.le_refl _⟩, ⟨by repeat (first | (with_reducible first | exact HB.out | apply below_alloc | apply pw_below_drewN | apply below_drew1) | exact HB.out)⟩⟩
    · rw [if_neg c5] at H
      have c5b0 : decide (12 < (l0.length : Int)) = false := decide_eq_false c5
      have c5b1 : decide (12 < l0.length) = false := decide_eq_false (by omega)
      clear c5
      (first | rw [c5b0] | (simp only [i64_w, i32_w]; rw [c5b0]) | skip)
      by_cases c6 : a1 < 1
      · rw [if_pos c6] at H
        have c6b0 : decide (a1 < 1) = true := decide_eq_true c6
        clear c6
        have H' := Aside0.mk H
        clear H
        go_wp2
        go_meet
        case rel => exact ⟨_, (true), (by first | rfl | (simp; done) | (simp [*]; done)), H', ⟨by first | omega | exact Nat.le_refl _⟩, ⟨by repeat (first | (with_reducible first | exact HB.out | apply below_alloc | apply pw_below_drewN | apply below_drew1) | exact HB.out)⟩⟩
      · rw [if_neg c6] at H
        have c6b0 : decide (a1 < 1) = false := decide_eq_false c6
        clear c6
        by_cases c7 : a1 > 64
        · rw [if_pos c7] at H
          have c7b0 : decide (64 < a1) = true := decide_eq_true c7
          clear c7
          have H' := Aside0.mk H
          clear H
          go_wp2
          go_meet
          case rel => exact ⟨_, (true), (by first | rfl | (simp; done) | (simp [*]; done)), H', ⟨by first | omega | exact Nat.le_refl _⟩, ⟨by repeat (first | (with_reducible first | exact HB.out | apply below_alloc | apply pw_below_drewN | apply below_drew1) | exact HB.out)⟩⟩
        · rw [if_neg c7] at H
          have c7b0 : decide (64 < a1) = false := decide_eq_false c7
          clear c7
          by_cases c8 : a2 < 0
          · rw [if_pos c8] at H
            have c8b0 : decide (a2 < 0) = true := decide_eq_true c8
            clear c8
            have H' := Aside0.mk H
            clear H
            go_wp2
            go_meet
            case rel => exact ⟨_, (true), (by first | rfl | (simp; done) | (simp [*]; done)), H', ⟨by first | omega | exact Nat.le_refl _⟩, ⟨by repeat (first | (with_reducible first | exact HB.out | apply below_alloc | apply pw_below_drewN | apply below_drew1) | exact HB.out)⟩⟩
          · rw [if_neg c8] at H
            have c8b0 : decide (a2 < 0) = false := decide_eq_false c8
            clear c8
            have H' := Aside0.mk H
            clear H
            go_wp2
            go_meet
            case rel => exact ⟨_, (decide (a2 > 192)), (by first | rfl | (simp; done) | (simp [*]; done)), H', ⟨by first | omega | exact Nat.le_refl _⟩, ⟨by repeat (first | (with_reducible first | exact HB.out | apply below_alloc | apply pw_below_drewN | apply below_drew1) | exact HB.out)⟩⟩
  case rest =>
    clear HC4
    try clear c2
    try clear p2
    try clear c5
    try clear c5b0
    try clear c5b1
    try clear c6
    try clear c6b0
    try clear c7
    try clear c7b0
    try clear c8
    try clear c8b0
    obtain ⟨kq, x29_3, rfl, HA, HJ3, HB⟩ := hcut
    cases kq with
    | zero => exact absurd HA.out (by simp [impl_ValidPacking.j0])
    | succ kj3 =>
      have H := HA.out
      clear HA
      simp only [impl_ValidPacking.j0] at H
      by_cases c9 : x29_3 = true
      · subst c9
        have H1 : (some false) = some r := by rw [if_pos rfl] at H; exact H
        clear H
        have H := H1
        clear H1
        obtain rfl := Option.some.inj H
        go_wp2
        go_ret
        exact ⟨by first | rfl | (simp [errW_none, errW_some] <;> rfl) | (simp [*, errW_none, errW_some] <;> rfl), by repeat (first | (with_reducible first | exact HB.out | apply below_alloc | apply pw_below_drewN | apply below_drew1) | exact HB.out)⟩
      · replace c9 := Bool.eq_false_iff.mpr c9
        subst c9
        have H1 : (impl_ValidPacking.l0 kj3 l0 a1 a2 l0 (l0.length : Int) 0) = some r := by rw [if_neg (show ¬ (false = true) by decide)] at H; exact H
        clear H
        have H := H1
        clear H1
        have H' := Aside0.mk H
        clear H
        go_wp2
        go_loopg [32] kj3 (fun kq v32 w' => ∃ (x32_2 : Int), v32 = .int .i64 x32_2 ∧ Aside0 (impl_ValidPacking.l0 kq l0 a1 a2 l0 (l0.length : Int) x32_2 = some r) ∧ Aside0 (kq ≤ kj3) ∧ Aside0 (Below w.heap.size w w'))
        case atStart => exact ⟨(0), (by first | rfl | (simp; done) | (simp [*]; done)), H', ⟨Nat.le_refl _⟩, ⟨by repeat (first | (with_reducible first | exact HB.out | apply below_alloc | apply pw_below_drewN | apply below_drew1) | exact HB.out)⟩⟩
        case round =>
          clear H'
          try clear c2
          try clear p2
          try clear c5
          try clear c5b0
          try clear c5b1
          try clear c6
          try clear c6b0
          try clear c7
          try clear c7b0
          try clear c8
          try clear c8b0
          try clear c9
          try clear p2
          obtain ⟨x32_2, rfl, HA, HK2, HB⟩ := hrel
          cases gk with
          | zero => exact absurd HA.out (by simp [impl_ValidPacking.l0])
          | succ k2 =>
            have H := HA.out
            clear HA
            simp only [impl_ValidPacking.l0] at H
            by_cases c10 : x32_2 < (l0.length : Int)
            · rw [if_pos c10] at H
              have c10b0 : decide (x32_2 < (l0.length : Int)) = true := decide_eq_true c10
              clear c10
              by_cases c11 : 0 ≤ x32_2
              · rw [if_pos c11] at H
                have c11b0 : decide (0 ≤ x32_2) = true := decide_eq_true c11
                clear c11
                by_cases c12 : x32_2 < (l0.length : Int)
                · rw [if_pos c12] at H
                  have c12b0 : decide (x32_2 < (l0.length : Int)) = true := decide_eq_true c12
                  clear c12
                  have HC13 := Aside0.mk H
                  clear H
                  have p23001 : 0 ≤ (x32_2 : Int) := of_decide_eq_true (by first | (with_reducible assumption) | assumption)
                  have q23001 : x32_2 < (l0.length : Int) := of_decide_eq_true (by first | (with_reducible assumption) | assumption)
                  obtain ⟨ad23001, e23001, hx23001_0, hx23001_1, hx23001_2, hx23001_3⟩ := at_T50 HR0.out x32_2 p23001 q23001
                  cases e23001
                  replace hx23001_0 := (HB.out.cell (World.block_lt_of_cell? w _ hx23001_0)).trans hx23001_0
                  replace hx23001_1 := (HB.out.cell (World.block_lt_of_cell? w _ hx23001_1)).trans hx23001_1
                  replace hx23001_2 := (HB.out.cell (World.block_lt_of_cell? w _ hx23001_2)).trans hx23001_2
                  replace hx23001_3 := (HB.out.cell (World.block_lt_of_cell? w _ hx23001_3)).trans hx23001_3
                  replace p23001 := eq_true p23001
                  replace q23001 := eq_true q23001
                  go_upto_region 6 with (first | ((with_reducible refine gate_dst (N := 8) rfl ?_); refine box_event ?hg (N := 8) ?hd (cs := #[.int .i64 0, .int .i64 0, .int .i64 0, .int .i64 0]) (t := 50) ?hr ?_; (case hd => rfl); (case hg => rfl); (case hr => first | (go_simp; done) | (go_simp; rfl)); intro gb23002 hg w14 hbox hb; have n0_ := Aside0.mk (below_step (by repeat (first | (with_reducible first | exact HB.out | apply below_alloc | apply pw_below_drewN | apply below_drew1) | exact HB.out)) hb); have n1_ := Aside0.mk (hbox); have n2_ := Aside0.mk ((by rw [hg]; exact (below_size (by repeat (first | (with_reducible first | exact HB.out | apply below_alloc | apply pw_below_drewN | apply below_drew1) | exact HB.out))) : w.heap.size ≤ gb23002)); have n3_ := Aside0.mk ((by rw [hg]; exact (below_size (by repeat (first | (with_reducible first | exact HB.out | apply below_alloc | apply pw_below_drewN | apply below_drew1) | exact HB.out))) : w.heap.size ≤ gb23002)); clear HB; have HB := n0_; have BK23002 := n1_; have GW23002 := n2_; have GE23002 := n3_; clear n0_ n1_ n2_ n3_; clear hb hbox hg; have hcz15_0 : w14.cell? ⟨gb23002, 0, none⟩ = some (.int .i64 0) := (blk_cell BK23002.out 0).trans rfl; have hcz15_1 : w14.cell? ⟨gb23002, 1, none⟩ = some (.int .i64 0) := (blk_cell BK23002.out 1).trans rfl; have hcz15_2 : w14.cell? ⟨gb23002, 2, none⟩ = some (.int .i64 0) := (blk_cell BK23002.out 2).trans rfl; have hcz15_3 : w14.cell? ⟨gb23002, 3, none⟩ = some (.int .i64 0) := (blk_cell BK23002.out 3).trans rfl; have hfz15_0 := blk_frozen BK23002.out 0; have hfz15_1 := blk_frozen BK23002.out 1; have hfz15_2 := blk_frozen BK23002.out 2; have hfz15_3 := blk_frozen BK23002.out 3))
                  (try simp only [Act.put, List.setIfInBounds_toArray, List.set_cons_zero, List.set_cons_succ])
                  go_cut [84] (fun v84 wc => ∃ (kq : Nat) (x84_12 : Bool), v84 = .bool x84_12 ∧ Aside0 (impl_ValidPacking.j2 kq l0 a1 a2 x32_2 l0 (l0.length : Int) x32_2 x84_12 ((rd_T50 l0 x32_2).f0) ((rd_T50 l0 x32_2).f1) ((rd_T50 l0 x32_2).f2) ((rd_T50 l0 x32_2).f3) = some r) ∧ Aside0 (kq ≤ k2) ∧ Aside0 (wc.heap[gb23002]? = some (.cells #[.int .i64 ((rd_T50 l0 x32_2).f0), .int .i64 ((rd_T50 l0 x32_2).f1), .int .i64 ((rd_T50 l0 x32_2).f2), .int .i64 ((rd_T50 l0 x32_2).f3)] 50 (0, 0))) ∧ Aside0 (Below w.heap.size w wc))
                  case first =>
                    have H := HC13.out
                    clear HC13
                    by_cases c16 : ((rd_T50 l0 x32_2).f0) < 0
                    · rw [if_pos c16] at H
                      have c16b0 : decide (((rd_T50 l0 x32_2).f0) < 0) = true := decide_eq_true c16
                      clear c16
                      (first | rw [c16b0] | (simp only [i64_w, i32_w]; rw [c16b0]) | skip)
                      have H' := Aside0.mk H
                      clear H
                      have hcz17_0 : w14.cell? ⟨gb23002, 0, none⟩ = some (.int .i64 0) := (blk_cell BK23002.out 0).trans rfl
                      have hcz17_1 : w14.cell? ⟨gb23002, 1, none⟩ = some (.int .i64 0) := (blk_cell BK23002.out 1).trans rfl
                      have hcz17_2 : w14.cell? ⟨gb23002, 2, none⟩ = some (.int .i64 0) := (blk_cell BK23002.out 2).trans rfl
                      have hcz17_3 : w14.cell? ⟨gb23002, 3, none⟩ = some (.int .i64 0) := (blk_cell BK23002.out 3).trans rfl
                      have hfz17_0 := blk_frozen BK23002.out 0
                      have hfz17_1 := blk_frozen BK23002.out 1
                      have hfz17_2 := blk_frozen BK23002.out 2
                      have hfz17_3 := blk_frozen BK23002.out 3
                      go_wp2
                      go_meet
                      case rel => exact ⟨_, (true), (by first | rfl | (simp; done) | (simp [*]; done)), H', ⟨by have := HJ3.out; have := HK2.out; first | omega | exact Nat.le_refl _⟩, ⟨by (with_reducible repeat (first | refine blk_drewN ?_ _ | refine blk_drew ?_ | refine blk_alloc ?_ _)); refine blk_put (cs := #[.int .i64 ((rd_T50 l0 x32_2).f0), .int .i64 ((rd_T50 l0 x32_2).f1), .int .i64 ((rd_T50 l0 x32_2).f2), .int .i64 0]) ?_ 3 _ rfl; (with_reducible repeat (first | refine blk_drewN ?_ _ | refine blk_drew ?_ | refine blk_alloc ?_ _)); refine blk_put (cs := #[.int .i64 ((rd_T50 l0 x32_2).f0), .int .i64 ((rd_T50 l0 x32_2).f1), .int .i64 0, .int .i64 0]) ?_ 2 _ rfl; (with_reducible repeat (first | refine blk_drewN ?_ _ | refine blk_drew ?_ | refine blk_alloc ?_ _)); refine blk_put (cs := #[.int .i64 ((rd_T50 l0 x32_2).f0), .int .i64 0, .int .i64 0, .int .i64 0]) ?_ 1 _ rfl; (with_reducible repeat (first | refine blk_drewN ?_ _ | refine blk_drew ?_ | refine blk_alloc ?_ _)); refine blk_put (cs := #[.int .i64 0, .int .i64 0, .int .i64 0, .int .i64 0]) ?_ 0 _ rfl; (with_reducible repeat (first | refine blk_drewN ?_ _ | refine blk_drew ?_ | refine blk_alloc ?_ _)); exact BK23002.out⟩, ⟨by repeat (first | (with_reducible first | exact HB.out | apply below_alloc | apply pw_below_drewN | apply below_drew1 | refine below_set ?_ GE23002.out) | exact HB.out)⟩⟩
                    · rw [if_neg c16] at H
                      have c16b0 : decide (((rd_T50 l0 x32_2).f0) < 0) = false := decide_eq_false c16
                      clear c16
                      (first | rw [c16b0] | (simp only [i64_w, i32_w]; rw [c16b0]) | skip)
                      by_cases c18 : ((rd_T50 l0 x32_2).f0) > a1
                      · rw [if_pos c18] at H
                        have c18b0 : decide (a1 < ((rd_T50 l0 x32_2).f0)) = true := decide_eq_true c18
                        clear c18
                        have H' := Aside0.mk H
                        clear H
                        have hcz19_0 : w14.cell? ⟨gb23002, 0, none⟩ = some (.int .i64 0) := (blk_cell BK23002.out 0).trans rfl
                        have hcz19_1 : w14.cell? ⟨gb23002, 1, none⟩ = some (.int .i64 0) := (blk_cell BK23002.out 1).trans rfl
                        have hcz19_2 : w14.cell? ⟨gb23002, 2, none⟩ = some (.int .i64 0) := (blk_cell BK23002.out 2).trans rfl
                        have hcz19_3 : w14.cell? ⟨gb23002, 3, none⟩ = some (.int .i64 0) := (blk_cell BK23002.out 3).trans rfl
                        have hfz19_0 := blk_frozen BK23002.out 0
                        have hfz19_1 := blk_frozen BK23002.out 1
                        have hfz19_2 := blk_frozen BK23002.out 2
                        have hfz19_3 := blk_frozen BK23002.out 3
                        go_wp2
                        go_meet
                        case rel => exact ⟨_, (true), (by first | rfl | (simp; done) | (simp [*]; done)), H', ⟨by have := HJ3.out; have := HK2.out; first | omega | exact Nat.le_refl _⟩, ⟨by (with_reducible repeat (first | refine blk_drewN ?_ _ | refine blk_drew ?_ | refine blk_alloc ?_ _)); refine blk_put (cs := #[.int .i64 ((rd_T50 l0 x32_2).f0), .int .i64 ((rd_T50 l0 x32_2).f1), .int .i64 ((rd_T50 l0 x32_2).f2), .int .i64 0]) ?_ 3 _ rfl; (with_reducible repeat (first | refine blk_drewN ?_ _ | refine blk_drew ?_ | refine blk_alloc ?_ _)); refine blk_put (cs := #[.int .i64 ((rd_T50 l0 x32_2).f0), .int .i64 ((rd_T50 l0 x32_2).f1), .int .i64 0, .int .i64 0]) ?_ 2 _ rfl; (with_reducible repeat (first | refine blk_drewN ?_ _ | refine blk_drew ?_ | refine blk_alloc ?_ _)); refine blk_put (cs := #[.int .i64 ((rd_T50 l0 x32_2).f0), .int .i64 0, .int .i64 0, .int .i64 0]) ?_ 1 _ rfl; (with_reducible repeat (first | refine blk_drewN ?_ _ | refine blk_drew ?_ | refine blk_alloc ?_ _)); refine blk_put (cs := #[.int .i64 0, .int .i64 0, .int .i64 0, .int .i64 0]) ?_ 0 _ rfl; (with_reducible repeat (first | refine blk_drewN ?_ _ | refine blk_drew ?_ | refine blk_alloc ?_ _)); exact BK23002.out⟩, ⟨by repeat (first | (with_reducible first | exact HB.out | apply below_alloc | apply pw_below_drewN | apply below_drew1 | refine below_set ?_ GE23002.out) | exact HB.out)⟩⟩
                      · rw [if_neg c18] at H
                        have c18b0 : decide (a1 < ((rd_T50 l0 x32_2).f0)) = false := decide_eq_false c18
                        clear c18
                        by_cases c20 : ((rd_T50 l0 x32_2).f1) < 0
                        · rw [if_pos c20] at H
                          have c20b0 : decide (((rd_T50 l0 x32_2).f1) < 0) = true := decide_eq_true c20
                          clear c20
                          have H' := Aside0.mk H
                          clear H
                          have hcz21_0 : w14.cell? ⟨gb23002, 0, none⟩ = some (.int .i64 0) := (blk_cell BK23002.out 0).trans rfl
                          have hcz21_1 : w14.cell? ⟨gb23002, 1, none⟩ = some (.int .i64 0) := (blk_cell BK23002.out 1).trans rfl
                          have hcz21_2 : w14.cell? ⟨gb23002, 2, none⟩ = some (.int .i64 0) := (blk_cell BK23002.out 2).trans rfl
                          have hcz21_3 : w14.cell? ⟨gb23002, 3, none⟩ = some (.int .i64 0) := (blk_cell BK23002.out 3).trans rfl
                          have hfz21_0 := blk_frozen BK23002.out 0
                          have hfz21_1 := blk_frozen BK23002.out 1
                          have hfz21_2 := blk_frozen BK23002.out 2
                          have hfz21_3 := blk_frozen BK23002.out 3
                          go_wp2
                          go_meet
                          case rel => exact ⟨_, (true), (by first | rfl | (simp; done) | (simp [*]; done)), H', ⟨by have := HJ3.out; have := HK2.out; first | omega | exact Nat.le_refl _⟩, ⟨by (with_reducible repeat (first | refine blk_drewN ?_ _ | refine blk_drew ?_ | refine blk_alloc ?_ _)); refine blk_put (cs := #[.int .i64 ((rd_T50 l0 x32_2).f0), .int .i64 ((rd_T50 l0 x32_2).f1), .int .i64 ((rd_T50 l0 x32_2).f2), .int .i64 0]) ?_ 3 _ rfl; (with_reducible repeat (first | refine blk_drewN ?_ _ | refine blk_drew ?_ | refine blk_alloc ?_ _)); refine blk_put (cs := #[.int .i64 ((rd_T50 l0 x32_2).f0), .int .i64 ((rd_T50 l0 x32_2).f1), .int .i64 0, .int .i64 0]) ?_ 2 _ rfl; (with_reducible repeat (first | refine blk_drewN ?_ _ | refine blk_drew ?_ | refine blk_alloc ?_ _)); refine blk_put (cs := #[.int .i64 ((rd_T50 l0 x32_2).f0), .int .i64 0, .int .i64 0, .int .i64 0]) ?_ 1 _ rfl; (with_reducible repeat (first | refine blk_drewN ?_ _ | refine blk_drew ?_ | refine blk_alloc ?_ _)); refine blk_put (cs := #[.int .i64 0, .int .i64 0, .int .i64 0, .int .i64 0]) ?_ 0 _ rfl; (with_reducible repeat (first | refine blk_drewN ?_ _ | refine blk_drew ?_ | refine blk_alloc ?_ _)); exact BK23002.out⟩, ⟨by repeat (first | (with_reducible first | exact HB.out | apply below_alloc | apply pw_below_drewN | apply below_drew1 | refine below_set ?_ GE23002.out) | exact HB.out)⟩⟩
                        · rw [if_neg c20] at H
                          have c20b0 : decide (((rd_T50 l0 x32_2).f1) < 0) = false := decide_eq_false c20
                          clear c20
                          by_cases c22 : ((rd_T50 l0 x32_2).f1) > a2
                          · rw [if_pos c22] at H
                            have c22b0 : decide (a2 < ((rd_T50 l0 x32_2).f1)) = true := decide_eq_true c22
                            clear c22
                            have H' := Aside0.mk H
                            clear H
                            have hcz23_0 : w14.cell? ⟨gb23002, 0, none⟩ = some (.int .i64 0) := (blk_cell BK23002.out 0).trans rfl
                            have hcz23_1 : w14.cell? ⟨gb23002, 1, none⟩ = some (.int .i64 0) := (blk_cell BK23002.out 1).trans rfl
                            have hcz23_2 : w14.cell? ⟨gb23002, 2, none⟩ = some (.int .i64 0) := (blk_cell BK23002.out 2).trans rfl
                            have hcz23_3 : w14.cell? ⟨gb23002, 3, none⟩ = some (.int .i64 0) := (blk_cell BK23002.out 3).trans rfl
                            have hfz23_0 := blk_frozen BK23002.out 0
                            have hfz23_1 := blk_frozen BK23002.out 1
                            have hfz23_2 := blk_frozen BK23002.out 2
                            have hfz23_3 := blk_frozen BK23002.out 3
                            go_wp2
                            go_meet
                            case rel => exact ⟨_, (true), (by first | rfl | (simp; done) | (simp [*]; done)), H', ⟨by have := HJ3.out; have := HK2.out; first | omega | exact Nat.le_refl _⟩, ⟨by (with_reducible repeat (first | refine blk_drewN ?_ _ | refine blk_drew ?_ | refine blk_alloc ?_ _)); refine blk_put (cs := #[.int .i64 ((rd_T50 l0 x32_2).f0), .int .i64 ((rd_T50 l0 x32_2).f1), .int .i64 ((rd_T50 l0 x32_2).f2), .int .i64 0]) ?_ 3 _ rfl; (with_reducible repeat (first | refine blk_drewN ?_ _ | refine blk_drew ?_ | refine blk_alloc ?_ _)); refine blk_put (cs := #[.int .i64 ((rd_T50 l0 x32_2).f0), .int .i64 ((rd_T50 l0 x32_2).f1), .int .i64 0, .int .i64 0]) ?_ 2 _ rfl; (with_reducible repeat (first | refine blk_drewN ?_ _ | refine blk_drew ?_ | refine blk_alloc ?_ _)); refine blk_put (cs := #[.int .i64 ((rd_T50 l0 x32_2).f0), .int .i64 0, .int .i64 0, .int .i64 0]) ?_ 1 _ rfl; (with_reducible repeat (first | refine blk_drewN ?_ _ | refine blk_drew ?_ | refine blk_alloc ?_ _)); refine blk_put (cs := #[.int .i64 0, .int .i64 0, .int .i64 0, .int .i64 0]) ?_ 0 _ rfl; (with_reducible repeat (first | refine blk_drewN ?_ _ | refine blk_drew ?_ | refine blk_alloc ?_ _)); exact BK23002.out⟩, ⟨by repeat (first | (with_reducible first | exact HB.out | apply below_alloc | apply pw_below_drewN | apply below_drew1 | refine below_set ?_ GE23002.out) | exact HB.out)⟩⟩
                          · rw [if_neg c22] at H
                            have c22b0 : decide (a2 < ((rd_T50 l0 x32_2).f1)) = false := decide_eq_false c22
                            clear c22
                            by_cases c24 : ((rd_T50 l0 x32_2).f2) < 1
                            · rw [if_pos c24] at H
                              have c24b0 : decide (((rd_T50 l0 x32_2).f2) < 1) = true := decide_eq_true c24
                              clear c24
                              have H' := Aside0.mk H
                              clear H
                              have hcz25_0 : w14.cell? ⟨gb23002, 0, none⟩ = some (.int .i64 0) := (blk_cell BK23002.out 0).trans rfl
                              have hcz25_1 : w14.cell? ⟨gb23002, 1, none⟩ = some (.int .i64 0) := (blk_cell BK23002.out 1).trans rfl
                              have hcz25_2 : w14.cell? ⟨gb23002, 2, none⟩ = some (.int .i64 0) := (blk_cell BK23002.out 2).trans rfl
                              have hcz25_3 : w14.cell? ⟨gb23002, 3, none⟩ = some (.int .i64 0) := (blk_cell BK23002.out 3).trans rfl
                              have hfz25_0 := blk_frozen BK23002.out 0
                              have hfz25_1 := blk_frozen BK23002.out 1
                              have hfz25_2 := blk_frozen BK23002.out 2
                              have hfz25_3 := blk_frozen BK23002.out 3
                              go_wp2
                              go_meet
                              case rel => exact ⟨_, (true), (by first | rfl | (simp; done) | (simp [*]; done)), H', ⟨by have := HJ3.out; have := HK2.out; first | omega | exact Nat.le_refl _⟩, ⟨by (with_reducible repeat (first | refine blk_drewN ?_ _ | refine blk_drew ?_ | refine blk_alloc ?_ _)); refine blk_put (cs := #[.int .i64 ((rd_T50 l0 x32_2).f0), .int .i64 ((rd_T50 l0 x32_2).f1), .int .i64 ((rd_T50 l0 x32_2).f2), .int .i64 0]) ?_ 3 _ rfl; (with_reducible repeat (first | refine blk_drewN ?_ _ | refine blk_drew ?_ | refine blk_alloc ?_ _)); refine blk_put (cs := #[.int .i64 ((rd_T50 l0 x32_2).f0), .int .i64 ((rd_T50 l0 x32_2).f1), .int .i64 0, .int .i64 0]) ?_ 2 _ rfl; (with_reducible repeat (first | refine blk_drewN ?_ _ | refine blk_drew ?_ | refine blk_alloc ?_ _)); refine blk_put (cs := #[.int .i64 ((rd_T50 l0 x32_2).f0), .int .i64 0, .int .i64 0, .int .i64 0]) ?_ 1 _ rfl; (with_reducible repeat (first | refine blk_drewN ?_ _ | refine blk_drew ?_ | refine blk_alloc ?_ _)); refine blk_put (cs := #[.int .i64 0, .int .i64 0, .int .i64 0, .int .i64 0]) ?_ 0 _ rfl; (with_reducible repeat (first | refine blk_drewN ?_ _ | refine blk_drew ?_ | refine blk_alloc ?_ _)); exact BK23002.out⟩, ⟨by repeat (first | (with_reducible first | exact HB.out | apply below_alloc | apply pw_below_drewN | apply below_drew1 | refine below_set ?_ GE23002.out) | exact HB.out)⟩⟩
                            · rw [if_neg c24] at H
                              have c24b0 : decide (((rd_T50 l0 x32_2).f2) < 1) = false := decide_eq_false c24
                              clear c24
                              by_cases c26 : ((rd_T50 l0 x32_2).f2) > (wrap64 (a1 - ((rd_T50 l0 x32_2).f0)))
                              · rw [if_pos c26] at H
                                have c26b0 : decide ((wrap64 (a1 - ((rd_T50 l0 x32_2).f0))) < ((rd_T50 l0 x32_2).f2)) = true := decide_eq_true c26
                                clear c26
                                have H' := Aside0.mk H
                                clear H
                                have hcz27_0 : w14.cell? ⟨gb23002, 0, none⟩ = some (.int .i64 0) := (blk_cell BK23002.out 0).trans rfl
                                have hcz27_1 : w14.cell? ⟨gb23002, 1, none⟩ = some (.int .i64 0) := (blk_cell BK23002.out 1).trans rfl
                                have hcz27_2 : w14.cell? ⟨gb23002, 2, none⟩ = some (.int .i64 0) := (blk_cell BK23002.out 2).trans rfl
                                have hcz27_3 : w14.cell? ⟨gb23002, 3, none⟩ = some (.int .i64 0) := (blk_cell BK23002.out 3).trans rfl
                                have hfz27_0 := blk_frozen BK23002.out 0
                                have hfz27_1 := blk_frozen BK23002.out 1
                                have hfz27_2 := blk_frozen BK23002.out 2
                                have hfz27_3 := blk_frozen BK23002.out 3
                                go_wp2
                                go_meet
                                case rel => exact ⟨_, (true), (by first | rfl | (simp; done) | (simp [*]; done)), H', ⟨by have := HJ3.out; have := HK2.out; first | omega | exact Nat.le_refl _⟩, ⟨by (with_reducible repeat (first | refine blk_drewN ?_ _ | refine blk_drew ?_ | refine blk_alloc ?_ _)); refine blk_put (cs := #[.int .i64 ((rd_T50 l0 x32_2).f0), .int .i64 ((rd_T50 l0 x32_2).f1), .int .i64 ((rd_T50 l0 x32_2).f2), .int .i64 0]) ?_ 3 _ rfl; (with_reducible repeat (first | refine blk_drewN ?_ _ | refine blk_drew ?_ | refine blk_alloc ?_ _)); refine blk_put (cs := #[.int .i64 ((rd_T50 l0 x32_2).f0), .int .i64 ((rd_T50 l0 x32_2).f1), .int .i64 0, .int .i64 0]) ?_ 2 _ rfl; (with_reducible repeat (first | refine blk_drewN ?_ _ | refine blk_drew ?_ | refine blk_alloc ?_ _)); refine blk_put (cs := #[.int .i64 ((rd_T50 l0 x32_2).f0), .int .i64 0, .int .i64 0, .int .i64 0]) ?_ 1 _ rfl; (with_reducible repeat (first | refine blk_drewN ?_ _ | refine blk_drew ?_ | refine blk_alloc ?_ _)); refine blk_put (cs := #[.int .i64 0, .int .i64 0, .int .i64 0, .int .i64 0]) ?_ 0 _ rfl; (with_reducible repeat (first | refine blk_drewN ?_ _ | refine blk_drew ?_ | refine blk_alloc ?_ _)); exact BK23002.out⟩, ⟨by repeat (first | (with_reducible first | exact HB.out | apply below_alloc | apply pw_below_drewN | apply below_drew1 | refine below_set ?_ GE23002.out) | exact HB.out)⟩⟩
                              · rw [if_neg c26] at H
                                have c26b0 : decide ((wrap64 (a1 - ((rd_T50 l0 x32_2).f0))) < ((rd_T50 l0 x32_2).f2)) = false := decide_eq_false c26
                                clear c26
                                by_cases c28 : ((rd_T50 l0 x32_2).f3) < 1
                                · rw [if_pos c28] at H
                                  have c28b0 : decide (((rd_T50 l0 x32_2).f3) < 1) = true := decide_eq_true c28
                                  clear c28
                                  have H' := Aside0.mk H
                                  clear H
                                  have hcz29_0 : w14.cell? ⟨gb23002, 0, none⟩ = some (.int .i64 0) := (blk_cell BK23002.out 0).trans rfl
                                  have hcz29_1 : w14.cell? ⟨gb23002, 1, none⟩ = some (.int .i64 0) := (blk_cell BK23002.out 1).trans rfl
                                  have hcz29_2 : w14.cell? ⟨gb23002, 2, none⟩ = some (.int .i64 0) := (blk_cell BK23002.out 2).trans rfl
                                  have hcz29_3 : w14.cell? ⟨gb23002, 3, none⟩ = some (.int .i64 0) := (blk_cell BK23002.out 3).trans rfl
                                  have hfz29_0 := blk_frozen BK23002.out 0
                                  have hfz29_1 := blk_frozen BK23002.out 1
                                  have hfz29_2 := blk_frozen BK23002.out 2
                                  have hfz29_3 := blk_frozen BK23002.out 3
                                  go_wp2
                                  go_meet
                                  case rel => exact ⟨_, (true), (by first | rfl | (simp; done) | (simp [*]; done)), H', ⟨by have := HJ3.out; have := HK2.out; first | omega | exact Nat.le_refl _⟩, ⟨by (with_reducible repeat (first | refine blk_drewN ?_ _ | refine blk_drew ?_ | refine blk_alloc ?_ _)); refine blk_put (cs := #[.int .i64 ((rd_T50 l0 x32_2).f0), .int .i64 ((rd_T50 l0 x32_2).f1), .int .i64 ((rd_T50 l0 x32_2).f2), .int .i64 0]) ?_ 3 _ rfl; (with_reducible repeat (first | refine blk_drewN ?_ _ | refine blk_drew ?_ | refine blk_alloc ?_ _)); refine blk_put (cs := #[.int .i64 ((rd_T50 l0 x32_2).f0), .int .i64 ((rd_T50 l0 x32_2).f1), .int .i64 0, .int .i64 0]) ?_ 2 _ rfl; (with_reducible repeat (first | refine blk_drewN ?_ _ | refine blk_drew ?_ | refine blk_alloc ?_ _)); refine blk_put (cs := #[.int .i64 ((rd_T50 l0 x32_2).f0), .int .i64 0, .int .i64 0, .int .i64 0]) ?_ 1 _ rfl; (with_reducible repeat (first | refine blk_drewN ?_ _ | refine blk_drew ?_ | refine blk_alloc ?_ _)); refine blk_put (cs := #[.int .i64 0, .int .i64 0, .int .i64 0, .int .i64 0]) ?_ 0 _ rfl; (with_reducible repeat (first | refine blk_drewN ?_ _ | refine blk_drew ?_ | refine blk_alloc ?_ _)); exact BK23002.out⟩, ⟨by repeat (first | (with_reducible first | exact HB.out | apply below_alloc | apply pw_below_drewN | apply below_drew1 | refine below_set ?_ GE23002.out) | exact HB.out)⟩⟩
                                · rw [if_neg c28] at H
                                  have c28b0 : decide (((rd_T50 l0 x32_2).f3) < 1) = false := decide_eq_false c28
                                  clear c28
                                  have H' := Aside0.mk H
                                  clear H
                                  have hcz30_0 : w14.cell? ⟨gb23002, 0, none⟩ = some (.int .i64 0) := (blk_cell BK23002.out 0).trans rfl
                                  have hcz30_1 : w14.cell? ⟨gb23002, 1, none⟩ = some (.int .i64 0) := (blk_cell BK23002.out 1).trans rfl
                                  have hcz30_2 : w14.cell? ⟨gb23002, 2, none⟩ = some (.int .i64 0) := (blk_cell BK23002.out 2).trans rfl
                                  have hcz30_3 : w14.cell? ⟨gb23002, 3, none⟩ = some (.int .i64 0) := (blk_cell BK23002.out 3).trans rfl
                                  have hfz30_0 := blk_frozen BK23002.out 0
                                  have hfz30_1 := blk_frozen BK23002.out 1
                                  have hfz30_2 := blk_frozen BK23002.out 2
                                  have hfz30_3 := blk_frozen BK23002.out 3
                                  go_wp2
                                  go_meet
                                  case rel => exact ⟨_, (decide (((rd_T50 l0 x32_2).f3) > (wrap64 (a2 - ((rd_T50 l0 x32_2).f1))))), (by first | rfl | (simp; done) | (simp [*]; done)), H', ⟨by have := HJ3.out; have := HK2.out; first | omega | exact Nat.le_refl _⟩, ⟨by (with_reducible repeat (first | refine blk_drewN ?_ _ | refine blk_drew ?_ | refine blk_alloc ?_ _)); refine blk_put (cs := #[.int .i64 ((rd_T50 l0 x32_2).f0), .int .i64 ((rd_T50 l0 x32_2).f1), .int .i64 ((rd_T50 l0 x32_2).f2), .int .i64 0]) ?_ 3 _ rfl; (with_reducible repeat (first | refine blk_drewN ?_ _ | refine blk_drew ?_ | refine blk_alloc ?_ _)); refine blk_put (cs := #[.int .i64 ((rd_T50 l0 x32_2).f0), .int .i64 ((rd_T50 l0 x32_2).f1), .int .i64 0, .int .i64 0]) ?_ 2 _ rfl; (with_reducible repeat (first | refine blk_drewN ?_ _ | refine blk_drew ?_ | refine blk_alloc ?_ _)); refine blk_put (cs := #[.int .i64 ((rd_T50 l0 x32_2).f0), .int .i64 0, .int .i64 0, .int .i64 0]) ?_ 1 _ rfl; (with_reducible repeat (first | refine blk_drewN ?_ _ | refine blk_drew ?_ | refine blk_alloc ?_ _)); refine blk_put (cs := #[.int .i64 0, .int .i64 0, .int .i64 0, .int .i64 0]) ?_ 0 _ rfl; (with_reducible repeat (first | refine blk_drewN ?_ _ | refine blk_drew ?_ | refine blk_alloc ?_ _)); exact BK23002.out⟩, ⟨by repeat (first | (with_reducible first | exact HB.out | apply below_alloc | apply pw_below_drewN | apply below_drew1 | refine below_set ?_ GE23002.out) | exact HB.out)⟩⟩
                  case rest =>
                    clear HC13
                    try clear c1
                    try clear c2
                    try clear p2
                    try clear q2
                    try clear hx2
                    try clear c5
                    try clear c5b0
                    try clear c5b1
                    try clear c6
                    try clear c6b0
                    try clear p6
                    try clear c7
                    try clear c7b0
                    try clear c8
                    try clear c8b0
                    try clear c9
                    try clear c10
                    try clear c10b0
                    try clear c11
                    try clear c11b0
                    try clear c12
                    try clear c12b0
                    try clear c16
                    try clear c16b0
                    try clear c18
                    try clear c18b0
                    try clear c20
                    try clear c20b0
                    try clear c22
                    try clear c22b0
                    try clear p23
                    try clear q23
                    try clear hx23
                    try clear c24
                    try clear c24b0
                    try clear c26
                    try clear c26b0
                    try clear c28
                    try clear c28b0
                    try clear hcz15_0
                    try clear hcz15_1
                    try clear hcz15_2
                    try clear hcz15_3
                    try clear hcz17_0
                    try clear hcz17_1
                    try clear hcz17_2
                    try clear hcz17_3
                    try clear hcz19_0
                    try clear hcz19_1
                    try clear hcz19_2
                    try clear hcz19_3
                    try clear hcz21_0
                    try clear hcz21_1
                    try clear hcz21_2
                    try clear hcz21_3
                    try clear hcz23_0
                    try clear hcz23_1
                    try clear hcz23_2
                    try clear hcz23_3
                    try clear hcz25_0
                    try clear hcz25_1
                    try clear hcz25_2
                    try clear hcz25_3
                    try clear hcz27_0
                    try clear hcz27_1
                    try clear hcz27_2
                    try clear hcz27_3
                    try clear hcz29_0
                    try clear hcz29_1
                    try clear hcz29_2
                    try clear hcz29_3
                    try clear hcz30_0
                    try clear hcz30_1
                    try clear hcz30_2
                    try clear hcz30_3
                    try clear hfz15_0
                    try clear hfz15_1
                    try clear hfz15_2
                    try clear hfz15_3
                    try clear hfz17_0
                    try clear hfz17_1
                    try clear hfz17_2
                    try clear hfz17_3
                    try clear hfz19_0
                    try clear hfz19_1
                    try clear hfz19_2
                    try clear hfz19_3
                    try clear hfz21_0
                    try clear hfz21_1
                    try clear hfz21_2
                    try clear hfz21_3
                    try clear hfz23_0
                    try clear hfz23_1
                    try clear hfz23_2
                    try clear hfz23_3
                    try clear hfz25_0
                    try clear hfz25_1
                    try clear hfz25_2
                    try clear hfz25_3
                    try clear hfz27_0
                    try clear hfz27_1
                    try clear hfz27_2
                    try clear hfz27_3
                    try clear hfz29_0
                    try clear hfz29_1
                    try clear hfz29_2
                    try clear hfz29_3
                    try clear hfz30_0
                    try clear hfz30_1
                    try clear hfz30_2
                    try clear hfz30_3
                    try clear hx23001_0
                    try clear hx23001_1
                    try clear hx23001_2
                    try clear hx23001_3
                    try clear p2
                    try clear p23001
                    try clear q23001
                    obtain ⟨kq, x84_12, rfl, HA, HJ12, BK23002, HB⟩ := hcut
                    cases kq with
                    | zero => exact absurd HA.out (by simp [impl_ValidPacking.j2])
                    | succ kj12 =>
                      have H := HA.out
                      clear HA
                      simp only [impl_ValidPacking.j2] at H
                      by_cases c31 : x84_12 = true
                      · subst c31
                        have H1 : (some false) = some r := by rw [if_pos rfl] at H; exact H
                        clear H
                        have H := H1
                        clear H1
                        obtain rfl := Option.some.inj H
                        go_wp2
                        go_ret
                        exact ⟨by first | rfl | (simp [errW_none, errW_some] <;> rfl) | (simp [*, errW_none, errW_some] <;> rfl), by repeat (first | (with_reducible first | exact HB.out | apply below_alloc | apply pw_below_drewN | apply below_drew1 | refine below_set ?_ GE23002.out) | exact HB.out)⟩
                      · replace c31 := Bool.eq_false_iff.mpr c31
                        subst c31
                        have H1 : (if 0 ≤ x32_2 then (if x32_2 ≤ (l0.length : Int) then ((some (l0.take (x32_2 : Int).toNat : List (S50))).bind fun y23003 => (impl_ValidPacking.l1 kj12 l0 a1 a2 l0 (l0.length : Int) x32_2 y23003 (y23003.length : Int) 0 ((rd_T50 l0 x32_2).f0) ((rd_T50 l0 x32_2).f1) ((rd_T50 l0 x32_2).f2) ((rd_T50 l0 x32_2).f3))) else (none)) else (none)) = some r := by rw [if_neg (show ¬ (false = true) by decide)] at H; exact H
                        clear H
                        have H := H1
                        clear H1
                        by_cases c32 : 0 ≤ x32_2
                        · rw [if_pos c32] at H
                          have c32b0 := eq_true c32
                          have c32b1 : decide (0 ≤ x32_2) = true := decide_eq_true c32
                          clear c32
                          by_cases c33 : x32_2 ≤ (l0.length : Int)
                          · rw [if_pos c33] at H
                            have c33b0 := eq_true c33
                            have c33b1 : decide (x32_2 ≤ (l0.length : Int)) = true := decide_eq_true c33
                            clear c33
                            obtain ⟨y23003, hy23003⟩ : ∃ y_ : List (S50), y_ = (l0.take (x32_2 : Int).toNat) := ⟨_, rfl⟩
                            replace H : (impl_ValidPacking.l1 kj12 l0 a1 a2 l0 (l0.length : Int) x32_2 y23003 (y23003.length : Int) 0 ((rd_T50 l0 x32_2).f0) ((rd_T50 l0 x32_2).f1) ((rd_T50 l0 x32_2).f2) ((rd_T50 l0 x32_2).f3)) = some r := by first | (rw [hy23003]; with_reducible exact H) | (have H2_ := (Option.bind_some _ _).symm.trans H; rw [hy23003]; with_reducible exact H2_) | (have H2_ := (Option.bind_some _ _).symm.trans H; with_reducible exact H2_) | with_reducible exact H | (rw [hy23003]; exact H) | exact H
                            have Ny23003 := Aside0.mk hy23003
                            clear hy23003
                            have H' := Aside0.mk H
                            clear H
                            have q34 : (x32_2 : Int) ≤ ((l0.length : Int) : Int) := of_decide_eq_true (by first | (with_reducible assumption) | assumption)
                            obtain ⟨i034, hi034, _, hsz34, _⟩ := info_parts info50
                            have hroom34 : l0.length ≤ c0 := HC0.out
                            have hC34 : Kd.C k50 _ (some ad23001) l0.length l0 := HR0.out
                            have hcut34 := cut_to (P := Try.prog) 27 50 .i64 Try.underlying27 hi034 (some ad23001) l0.length c0 x32_2 (of_decide_eq_true (by first | (with_reducible assumption) | assumption)) q34 hroom34
                            have hr34 := Kd.C_take (m := (x32_2 : Int).toNat) hC34 (by omega)
                            have hy34 : y23003.length = (x32_2 : Int).toNat := (by rw [Ny23003.out, List.length_take]; omega)
                            rw [← Ny23003.out] at hr34
                            rw [← hy34] at hcut34
                            have HR23006 := Aside0.mk hr34
                            have HC23006 := Aside0.mk (show y23003.length ≤ c0 from by omega)
                            clear hr34 hC34 hroom34 hi034 hsz34
                            have KY34 := Aside0.mk hy34
                            clear hy34
                            replace q34 := eq_true q34
                            go_wp2
                            go_loopg [89] kj12 (fun kq v89 w' => ∃ (x89_4 : Int), v89 = .int .i64 x89_4 ∧ Aside0 (impl_ValidPacking.l1 kq l0 a1 a2 l0 (l0.length : Int) x32_2 y23003 (y23003.length : Int) x89_4 ((rd_T50 l0 x32_2).f0) ((rd_T50 l0 x32_2).f1) ((rd_T50 l0 x32_2).f2) ((rd_T50 l0 x32_2).f3) = some r) ∧ Aside0 (kq ≤ kj12) ∧ Aside0 (w'.heap[gb23002]? = some (.cells #[.int .i64 ((rd_T50 l0 x32_2).f0), .int .i64 ((rd_T50 l0 x32_2).f1), .int .i64 ((rd_T50 l0 x32_2).f2), .int .i64 ((rd_T50 l0 x32_2).f3)] 50 (0, 0))) ∧ Aside0 (Below w.heap.size w w'))
                            case atStart => exact ⟨(0), (by first | rfl | (simp; done) | (simp [*]; done)), H', ⟨Nat.le_refl _⟩, ⟨by (with_reducible repeat (first | refine blk_drewN ?_ _ | refine blk_drew ?_ | refine blk_alloc ?_ _)); exact BK23002.out⟩, ⟨by repeat (first | (with_reducible first | exact HB.out | apply below_alloc | apply pw_below_drewN | apply below_drew1 | refine below_set ?_ GE23002.out) | exact HB.out)⟩⟩
                            case round =>
                              clear H'
                              try clear c1
                              try clear c2
                              try clear p2
                              try clear q2
                              try clear hx2
                              try clear c3
                              try clear q3
                              try clear c5
                              try clear c5b0
                              try clear c5b1
                              try clear c6
                              try clear c6b0
                              try clear p6
                              try clear c7
                              try clear c7b0
                              try clear c8
                              try clear c8b0
                              try clear c9
                              try clear c10
                              try clear c10b0
                              try clear c11
                              try clear c11b0
                              try clear c12
                              try clear c12b0
                              try clear c16
                              try clear c16b0
                              try clear c18
                              try clear c18b0
                              try clear c20
                              try clear c20b0
                              try clear c22
                              try clear c22b0
                              try clear p23
                              try clear q23
                              try clear hx23
                              try clear c24
                              try clear c24b0
                              try clear c26
                              try clear c26b0
                              try clear c28
                              try clear c28b0
                              try clear c31
                              try clear c32
                              try clear c32b0
                              try clear c32b1
                              try clear c33
                              try clear c33b0
                              try clear c33b1
                              try clear q34
                              try clear hcz15_0
                              try clear hcz15_1
                              try clear hcz15_2
                              try clear hcz15_3
                              try clear hcz17_0
                              try clear hcz17_1
                              try clear hcz17_2
                              try clear hcz17_3
                              try clear hcz19_0
                              try clear hcz19_1
                              try clear hcz19_2
                              try clear hcz19_3
                              try clear hcz21_0
                              try clear hcz21_1
                              try clear hcz21_2
                              try clear hcz21_3
                              try clear hcz23_0
                              try clear hcz23_1
                              try clear hcz23_2
                              try clear hcz23_3
                              try clear hcz25_0
                              try clear hcz25_1
                              try clear hcz25_2
                              try clear hcz25_3
                              try clear hcz27_0
                              try clear hcz27_1
                              try clear hcz27_2
                              try clear hcz27_3
                              try clear hcz29_0
                              try clear hcz29_1
                              try clear hcz29_2
                              try clear hcz29_3
                              try clear hcz30_0
                              try clear hcz30_1
                              try clear hcz30_2
                              try clear hcz30_3
                              try clear hfz15_0
                              try clear hfz15_1
                              try clear hfz15_2
                              try clear hfz15_3
                              try clear hfz17_0
                              try clear hfz17_1
                              try clear hfz17_2
                              try clear hfz17_3
                              try clear hfz19_0
                              try clear hfz19_1
                              try clear hfz19_2
                              try clear hfz19_3
                              try clear hfz21_0
                              try clear hfz21_1
                              try clear hfz21_2
                              try clear hfz21_3
                              try clear hfz23_0
                              try clear hfz23_1
                              try clear hfz23_2
                              try clear hfz23_3
                              try clear hfz25_0
                              try clear hfz25_1
                              try clear hfz25_2
                              try clear hfz25_3
                              try clear hfz27_0
                              try clear hfz27_1
                              try clear hfz27_2
                              try clear hfz27_3
                              try clear hfz29_0
                              try clear hfz29_1
                              try clear hfz29_2
                              try clear hfz29_3
                              try clear hfz30_0
                              try clear hfz30_1
                              try clear hfz30_2
                              try clear hfz30_3
                              try clear hx23001_0
                              try clear hx23001_1
                              try clear hx23001_2
                              try clear hx23001_3
                              try clear p2
                              try clear p23
                              try clear p23001
                              try clear p6
                              try clear q2
                              try clear q23
                              try clear q23001
                              try clear q34
                              obtain ⟨x89_4, rfl, HA, HK4, BK23002, HB⟩ := hrel
                              cases gk with
                              | zero => exact absurd HA.out (by simp [impl_ValidPacking.l1])
                              | succ k4 =>
                                have H := HA.out
                                clear HA
                                simp only [impl_ValidPacking.l1] at H
                                by_cases c35 : x89_4 < (y23003.length : Int)
                                · rw [if_pos c35] at H
                                  have c35b0 : decide (x89_4 < (y23003.length : Int)) = true := decide_eq_true c35
                                  clear c35
                                  by_cases c36 : 0 ≤ x89_4
                                  · rw [if_pos c36] at H
                                    have c36b0 : decide (0 ≤ x89_4) = true := decide_eq_true c36
                                    clear c36
                                    by_cases c37 : x89_4 < (y23003.length : Int)
                                    · rw [if_pos c37] at H
                                      have c37b0 : decide (x89_4 < (y23003.length : Int)) = true := decide_eq_true c37
                                      clear c37
                                      by_cases c38 : ((rd_T50 l0 x32_2).f0) < (wrap64 (((rd_T50 y23003 x89_4).f0) + ((rd_T50 y23003 x89_4).f2)))
                                      · rw [if_pos c38] at H
                                        have c38b0 : decide (((rd_T50 l0 x32_2).f0) < (wrap64 (((rd_T50 y23003 x89_4).f0) + ((rd_T50 y23003 x89_4).f2)))) = true := decide_eq_true c38
                                        clear c38
                                        by_cases c39 : ((rd_T50 y23003 x89_4).f0) < (wrap64 (((rd_T50 l0 x32_2).f0) + ((rd_T50 l0 x32_2).f2)))
                                        · rw [if_pos c39] at H
                                          have c39b0 : decide (((rd_T50 y23003 x89_4).f0) < (wrap64 (((rd_T50 l0 x32_2).f0) + ((rd_T50 l0 x32_2).f2)))) = true := decide_eq_true c39
                                          clear c39
                                          by_cases c40 : ((rd_T50 l0 x32_2).f1) < (wrap64 (((rd_T50 y23003 x89_4).f1) + ((rd_T50 y23003 x89_4).f3)))
                                          · rw [if_pos c40] at H
                                            have c40b0 : decide (((rd_T50 l0 x32_2).f1) < (wrap64 (((rd_T50 y23003 x89_4).f1) + ((rd_T50 y23003 x89_4).f3)))) = true := decide_eq_true c40
                                            clear c40
                                            by_cases c41 : ((rd_T50 y23003 x89_4).f1) < (wrap64 (((rd_T50 l0 x32_2).f1) + ((rd_T50 l0 x32_2).f3)))
                                            · rw [if_pos c41] at H
                                              have c41b0 : decide (((rd_T50 y23003 x89_4).f1) < (wrap64 (((rd_T50 l0 x32_2).f1) + ((rd_T50 l0 x32_2).f3)))) = true := decide_eq_true c41
                                              clear c41
                                              obtain rfl := Option.some.inj H
                                              have p23007 : 0 ≤ (x89_4 : Int) := of_decide_eq_true (by first | (with_reducible assumption) | assumption)
                                              have q23007 : x89_4 < (y23003.length : Int) := of_decide_eq_true (by first | (with_reducible assumption) | assumption)
                                              obtain ⟨ad23007, e23007, hx23007_0, hx23007_1, hx23007_2, hx23007_3⟩ := at_T50 HR23006.out x89_4 p23007 q23007
                                              obtain rfl : ad23001 = ad23007 := (by injection e23007)
                                              replace hx23007_0 := (HB.out.cell (World.block_lt_of_cell? w _ hx23007_0)).trans hx23007_0
                                              replace hx23007_1 := (HB.out.cell (World.block_lt_of_cell? w _ hx23007_1)).trans hx23007_1
                                              replace hx23007_2 := (HB.out.cell (World.block_lt_of_cell? w _ hx23007_2)).trans hx23007_2
                                              replace hx23007_3 := (HB.out.cell (World.block_lt_of_cell? w _ hx23007_3)).trans hx23007_3
                                              replace p23007 := eq_true p23007
                                              replace q23007 := eq_true q23007
                                              go_wp2_with (first | ((with_reducible refine gate_dst (N := 10) rfl ?_); refine box_event ?hg (N := 10) ?hd (cs := #[.int .i64 0, .int .i64 0, .int .i64 0, .int .i64 0]) (t := 50) ?hr ?_; (case hd => rfl); (case hg => rfl); (case hr => first | (go_simp; done) | (go_simp; rfl)); intro gb23008 hg w42 hbox hb; have n0_ := Aside0.mk (blk_below (g := gb23002) (o := .cells #[.int .i64 ((rd_T50 l0 x32_2).f0), .int .i64 ((rd_T50 l0 x32_2).f1), .int .i64 ((rd_T50 l0 x32_2).f2), .int .i64 ((rd_T50 l0 x32_2).f3)] 50 (0, 0)) (by (with_reducible repeat (first | refine blk_drewN ?_ _ | refine blk_drew ?_ | refine blk_alloc ?_ _)); exact BK23002.out) hb); have n1_ := Aside0.mk (below_step (by repeat (first | (with_reducible first | exact HB.out | apply below_alloc | apply pw_below_drewN | apply below_drew1 | refine below_set ?_ GE23002.out) | exact HB.out)) hb); have n2_ := Aside0.mk (hbox); have n3_ := Aside0.mk ((by rw [hg]; exact (below_size (by repeat (first | (with_reducible first | exact HB.out | apply below_alloc | apply pw_below_drewN | apply below_drew1 | refine below_set ?_ GE23002.out) | exact HB.out))) : w.heap.size ≤ gb23008)); have n4_ := Aside0.mk ((by rw [hg]; exact (below_size (by repeat (first | (with_reducible first | exact HB.out | apply below_alloc | apply pw_below_drewN | apply below_drew1 | refine below_set ?_ GE23002.out) | exact HB.out))) : w.heap.size ≤ gb23008)); have n5_ := Aside0.mk ((by rw [hg]; exact Nat.ne_of_lt (blk_lt (g := gb23002) (o := .cells #[.int .i64 ((rd_T50 l0 x32_2).f0), .int .i64 ((rd_T50 l0 x32_2).f1), .int .i64 ((rd_T50 l0 x32_2).f2), .int .i64 ((rd_T50 l0 x32_2).f3)] 50 (0, 0)) (by (with_reducible repeat (first | refine blk_drewN ?_ _ | refine blk_drew ?_ | refine blk_alloc ?_ _)); exact BK23002.out)) : gb23002 ≠ gb23008)); have n6_ := Aside0.mk ((by rw [hg]; exact Nat.ne_of_gt (blk_lt (g := gb23002) (o := .cells #[.int .i64 ((rd_T50 l0 x32_2).f0), .int .i64 ((rd_T50 l0 x32_2).f1), .int .i64 ((rd_T50 l0 x32_2).f2), .int .i64 ((rd_T50 l0 x32_2).f3)] 50 (0, 0)) (by (with_reducible repeat (first | refine blk_drewN ?_ _ | refine blk_drew ?_ | refine blk_alloc ?_ _)); exact BK23002.out)) : gb23008 ≠ gb23002)); clear BK23002; clear HB; have BK23002 := n0_; have HB := n1_; have BK23008 := n2_; have GW23008 := n3_; have GE23008 := n4_; have NB23002_23008 := n5_; have NB23008_23002 := n6_; clear n0_ n1_ n2_ n3_ n4_ n5_ n6_; clear hb hbox hg; have hnb43 := NB23008_23002.out; have hnc43 := NB23002_23008.out; have hcz44_0 : w42.cell? ⟨gb23008, 0, none⟩ = some (.int .i64 0) := (blk_cell BK23008.out 0).trans rfl; have hcz44_1 : w42.cell? ⟨gb23008, 1, none⟩ = some (.int .i64 0) := (blk_cell BK23008.out 1).trans rfl; have hcz44_2 : w42.cell? ⟨gb23008, 2, none⟩ = some (.int .i64 0) := (blk_cell BK23008.out 2).trans rfl; have hcz44_3 : w42.cell? ⟨gb23008, 3, none⟩ = some (.int .i64 0) := (blk_cell BK23008.out 3).trans rfl; have hfz44_0 := blk_frozen BK23008.out 0; have hfz44_1 := blk_frozen BK23008.out 1; have hfz44_2 := blk_frozen BK23008.out 2; have hfz44_3 := blk_frozen BK23008.out 3; have hcz45_0 : w42.cell? ⟨gb23002, 0, none⟩ = some (.int .i64 ((rd_T50 l0 x32_2).f0)) := (blk_cell BK23002.out 0).trans rfl; have hcz45_1 : w42.cell? ⟨gb23002, 1, none⟩ = some (.int .i64 ((rd_T50 l0 x32_2).f1)) := (blk_cell BK23002.out 1).trans rfl; have hcz45_2 : w42.cell? ⟨gb23002, 2, none⟩ = some (.int .i64 ((rd_T50 l0 x32_2).f2)) := (blk_cell BK23002.out 2).trans rfl; have hcz45_3 : w42.cell? ⟨gb23002, 3, none⟩ = some (.int .i64 ((rd_T50 l0 x32_2).f3)) := (blk_cell BK23002.out 3).trans rfl; have hfz45_0 := blk_frozen BK23002.out 0; have hfz45_1 := blk_frozen BK23002.out 1; have hfz45_2 := blk_frozen BK23002.out 2; have hfz45_3 := blk_frozen BK23002.out 3))
                                              go_ret
                                              exact ⟨by first | rfl | (simp [errW_none, errW_some] <;> rfl) | (simp [*, errW_none, errW_some] <;> rfl), by repeat (first | (with_reducible first | exact HB.out | apply below_alloc | apply pw_below_drewN | apply below_drew1 | refine below_set ?_ GE23002.out | refine below_set ?_ GE23008.out) | exact HB.out)⟩
                                            · rw [if_neg c41] at H
                                              have c41b0 : decide (((rd_T50 y23003 x89_4).f1) < (wrap64 (((rd_T50 l0 x32_2).f1) + ((rd_T50 l0 x32_2).f3)))) = false := decide_eq_false c41
                                              clear c41
                                              have H' := Aside0.mk H
                                              clear H
                                              have p23007 : 0 ≤ (x89_4 : Int) := of_decide_eq_true (by first | (with_reducible assumption) | assumption)
                                              have q23007 : x89_4 < (y23003.length : Int) := of_decide_eq_true (by first | (with_reducible assumption) | assumption)
                                              obtain ⟨ad23007, e23007, hx23007_0, hx23007_1, hx23007_2, hx23007_3⟩ := at_T50 HR23006.out x89_4 p23007 q23007
                                              obtain rfl : ad23001 = ad23007 := (by injection e23007)
                                              replace hx23007_0 := (HB.out.cell (World.block_lt_of_cell? w _ hx23007_0)).trans hx23007_0
                                              replace hx23007_1 := (HB.out.cell (World.block_lt_of_cell? w _ hx23007_1)).trans hx23007_1
                                              replace hx23007_2 := (HB.out.cell (World.block_lt_of_cell? w _ hx23007_2)).trans hx23007_2
                                              replace hx23007_3 := (HB.out.cell (World.block_lt_of_cell? w _ hx23007_3)).trans hx23007_3
                                              replace p23007 := eq_true p23007
                                              replace q23007 := eq_true q23007
                                              go_wp2_with (first | ((with_reducible refine gate_dst (N := 10) rfl ?_); refine box_event ?hg (N := 10) ?hd (cs := #[.int .i64 0, .int .i64 0, .int .i64 0, .int .i64 0]) (t := 50) ?hr ?_; (case hd => rfl); (case hg => rfl); (case hr => first | (go_simp; done) | (go_simp; rfl)); intro gb23008 hg w46 hbox hb; have n0_ := Aside0.mk (blk_below (g := gb23002) (o := .cells #[.int .i64 ((rd_T50 l0 x32_2).f0), .int .i64 ((rd_T50 l0 x32_2).f1), .int .i64 ((rd_T50 l0 x32_2).f2), .int .i64 ((rd_T50 l0 x32_2).f3)] 50 (0, 0)) (by (with_reducible repeat (first | refine blk_drewN ?_ _ | refine blk_drew ?_ | refine blk_alloc ?_ _)); exact BK23002.out) hb); have n1_ := Aside0.mk (below_step (by repeat (first | (with_reducible first | exact HB.out | apply below_alloc | apply pw_below_drewN | apply below_drew1 | refine below_set ?_ GE23002.out) | exact HB.out)) hb); have n2_ := Aside0.mk (hbox); have n3_ := Aside0.mk ((by rw [hg]; exact (below_size (by repeat (first | (with_reducible first | exact HB.out | apply below_alloc | apply pw_below_drewN | apply below_drew1 | refine below_set ?_ GE23002.out) | exact HB.out))) : w.heap.size ≤ gb23008)); have n4_ := Aside0.mk ((by rw [hg]; exact (below_size (by repeat (first | (with_reducible first | exact HB.out | apply below_alloc | apply pw_below_drewN | apply below_drew1 | refine below_set ?_ GE23002.out) | exact HB.out))) : w.heap.size ≤ gb23008)); have n5_ := Aside0.mk ((by rw [hg]; exact Nat.ne_of_lt (blk_lt (g := gb23002) (o := .cells #[.int .i64 ((rd_T50 l0 x32_2).f0), .int .i64 ((rd_T50 l0 x32_2).f1), .int .i64 ((rd_T50 l0 x32_2).f2), .int .i64 ((rd_T50 l0 x32_2).f3)] 50 (0, 0)) (by (with_reducible repeat (first | refine blk_drewN ?_ _ | refine blk_drew ?_ | refine blk_alloc ?_ _)); exact BK23002.out)) : gb23002 ≠ gb23008)); have n6_ := Aside0.mk ((by rw [hg]; exact Nat.ne_of_gt (blk_lt (g := gb23002) (o := .cells #[.int .i64 ((rd_T50 l0 x32_2).f0), .int .i64 ((rd_T50 l0 x32_2).f1), .int .i64 ((rd_T50 l0 x32_2).f2), .int .i64 ((rd_T50 l0 x32_2).f3)] 50 (0, 0)) (by (with_reducible repeat (first | refine blk_drewN ?_ _ | refine blk_drew ?_ | refine blk_alloc ?_ _)); exact BK23002.out)) : gb23008 ≠ gb23002)); clear BK23002; clear HB; have BK23002 := n0_; have HB := n1_; have BK23008 := n2_; have GW23008 := n3_; have GE23008 := n4_; have NB23002_23008 := n5_; have NB23008_23002 := n6_; clear n0_ n1_ n2_ n3_ n4_ n5_ n6_; clear hb hbox hg; have hnb47 := NB23008_23002.out; have hnc47 := NB23002_23008.out; have hcz48_0 : w46.cell? ⟨gb23008, 0, none⟩ = some (.int .i64 0) := (blk_cell BK23008.out 0).trans rfl; have hcz48_1 : w46.cell? ⟨gb23008, 1, none⟩ = some (.int .i64 0) := (blk_cell BK23008.out 1).trans rfl; have hcz48_2 : w46.cell? ⟨gb23008, 2, none⟩ = some (.int .i64 0) := (blk_cell BK23008.out 2).trans rfl; have hcz48_3 : w46.cell? ⟨gb23008, 3, none⟩ = some (.int .i64 0) := (blk_cell BK23008.out 3).trans rfl; have hfz48_0 := blk_frozen BK23008.out 0; have hfz48_1 := blk_frozen BK23008.out 1; have hfz48_2 := blk_frozen BK23008.out 2; have hfz48_3 := blk_frozen BK23008.out 3; have hcz49_0 : w46.cell? ⟨gb23002, 0, none⟩ = some (.int .i64 ((rd_T50 l0 x32_2).f0)) := (blk_cell BK23002.out 0).trans rfl; have hcz49_1 : w46.cell? ⟨gb23002, 1, none⟩ = some (.int .i64 ((rd_T50 l0 x32_2).f1)) := (blk_cell BK23002.out 1).trans rfl; have hcz49_2 : w46.cell? ⟨gb23002, 2, none⟩ = some (.int .i64 ((rd_T50 l0 x32_2).f2)) := (blk_cell BK23002.out 2).trans rfl; have hcz49_3 : w46.cell? ⟨gb23002, 3, none⟩ = some (.int .i64 ((rd_T50 l0 x32_2).f3)) := (blk_cell BK23002.out 3).trans rfl; have hfz49_0 := blk_frozen BK23002.out 0; have hfz49_1 := blk_frozen BK23002.out 1; have hfz49_2 := blk_frozen BK23002.out 2; have hfz49_3 := blk_frozen BK23002.out 3))
                                              go_roundg k4
                                              case measure => have := HJ3.out; have := HK2.out; have := HJ12.out; have := HK4.out; omega
                                              case rel => exact ⟨(wrap64 (x89_4 + 1)), (by first | rfl | (simp; done) | (simp [*]; done)), H', ⟨by have := HJ3.out; have := HK2.out; have := HJ12.out; have := HK4.out; omega⟩, ⟨by (with_reducible repeat (first | refine blk_drewN ?_ _ | refine blk_drew ?_ | refine blk_alloc ?_ _)); refine blk_far ?_ NB23002_23008.out _; (with_reducible repeat (first | refine blk_drewN ?_ _ | refine blk_drew ?_ | refine blk_alloc ?_ _)); refine blk_far ?_ NB23002_23008.out _; (with_reducible repeat (first | refine blk_drewN ?_ _ | refine blk_drew ?_ | refine blk_alloc ?_ _)); refine blk_far ?_ NB23002_23008.out _; (with_reducible repeat (first | refine blk_drewN ?_ _ | refine blk_drew ?_ | refine blk_alloc ?_ _)); refine blk_far ?_ NB23002_23008.out _; (with_reducible repeat (first | refine blk_drewN ?_ _ | refine blk_drew ?_ | refine blk_alloc ?_ _)); exact BK23002.out⟩, ⟨by repeat (first | (with_reducible first | exact HB.out | apply below_alloc | apply pw_below_drewN | apply below_drew1 | refine below_set ?_ GE23002.out | refine below_set ?_ GE23008.out) | exact HB.out)⟩⟩
                                          · rw [if_neg c40] at H
                                            have c40b0 : decide (((rd_T50 l0 x32_2).f1) < (wrap64 (((rd_T50 y23003 x89_4).f1) + ((rd_T50 y23003 x89_4).f3)))) = false := decide_eq_false c40
                                            clear c40
                                            have H' := Aside0.mk H
                                            clear H
                                            have p23007 : 0 ≤ (x89_4 : Int) := of_decide_eq_true (by first | (with_reducible assumption) | assumption)
                                            have q23007 : x89_4 < (y23003.length : Int) := of_decide_eq_true (by first | (with_reducible assumption) | assumption)
                                            obtain ⟨ad23007, e23007, hx23007_0, hx23007_1, hx23007_2, hx23007_3⟩ := at_T50 HR23006.out x89_4 p23007 q23007
                                            obtain rfl : ad23001 = ad23007 := (by injection e23007)
                                            replace hx23007_0 := (HB.out.cell (World.block_lt_of_cell? w _ hx23007_0)).trans hx23007_0
                                            replace hx23007_1 := (HB.out.cell (World.block_lt_of_cell? w _ hx23007_1)).trans hx23007_1
                                            replace hx23007_2 := (HB.out.cell (World.block_lt_of_cell? w _ hx23007_2)).trans hx23007_2
                                            replace hx23007_3 := (HB.out.cell (World.block_lt_of_cell? w _ hx23007_3)).trans hx23007_3
                                            replace p23007 := eq_true p23007
                                            replace q23007 := eq_true q23007
                                            go_wp2_with (first | ((with_reducible refine gate_dst (N := 10) rfl ?_); refine box_event ?hg (N := 10) ?hd (cs := #[.int .i64 0, .int .i64 0, .int .i64 0, .int .i64 0]) (t := 50) ?hr ?_; (case hd => rfl); (case hg => rfl); (case hr => first | (go_simp; done) | (go_simp; rfl)); intro gb23008 hg w50 hbox hb; have n0_ := Aside0.mk (blk_below (g := gb23002) (o := .cells #[.int .i64 ((rd_T50 l0 x32_2).f0), .int .i64 ((rd_T50 l0 x32_2).f1), .int .i64 ((rd_T50 l0 x32_2).f2), .int .i64 ((rd_T50 l0 x32_2).f3)] 50 (0, 0)) (by (with_reducible repeat (first | refine blk_drewN ?_ _ | refine blk_drew ?_ | refine blk_alloc ?_ _)); exact BK23002.out) hb); have n1_ := Aside0.mk (below_step (by repeat (first | (with_reducible first | exact HB.out | apply below_alloc | apply pw_below_drewN | apply below_drew1 | refine below_set ?_ GE23002.out) | exact HB.out)) hb); have n2_ := Aside0.mk (hbox); have n3_ := Aside0.mk ((by rw [hg]; exact (below_size (by repeat (first | (with_reducible first | exact HB.out | apply below_alloc | apply pw_below_drewN | apply below_drew1 | refine below_set ?_ GE23002.out) | exact HB.out))) : w.heap.size ≤ gb23008)); have n4_ := Aside0.mk ((by rw [hg]; exact (below_size (by repeat (first | (with_reducible first | exact HB.out | apply below_alloc | apply pw_below_drewN | apply below_drew1 | refine below_set ?_ GE23002.out) | exact HB.out))) : w.heap.size ≤ gb23008)); have n5_ := Aside0.mk ((by rw [hg]; exact Nat.ne_of_lt (blk_lt (g := gb23002) (o := .cells #[.int .i64 ((rd_T50 l0 x32_2).f0), .int .i64 ((rd_T50 l0 x32_2).f1), .int .i64 ((rd_T50 l0 x32_2).f2), .int .i64 ((rd_T50 l0 x32_2).f3)] 50 (0, 0)) (by (with_reducible repeat (first | refine blk_drewN ?_ _ | refine blk_drew ?_ | refine blk_alloc ?_ _)); exact BK23002.out)) : gb23002 ≠ gb23008)); have n6_ := Aside0.mk ((by rw [hg]; exact Nat.ne_of_gt (blk_lt (g := gb23002) (o := .cells #[.int .i64 ((rd_T50 l0 x32_2).f0), .int .i64 ((rd_T50 l0 x32_2).f1), .int .i64 ((rd_T50 l0 x32_2).f2), .int .i64 ((rd_T50 l0 x32_2).f3)] 50 (0, 0)) (by (with_reducible repeat (first | refine blk_drewN ?_ _ | refine blk_drew ?_ | refine blk_alloc ?_ _)); exact BK23002.out)) : gb23008 ≠ gb23002)); clear BK23002; clear HB; have BK23002 := n0_; have HB := n1_; have BK23008 := n2_; have GW23008 := n3_; have GE23008 := n4_; have NB23002_23008 := n5_; have NB23008_23002 := n6_; clear n0_ n1_ n2_ n3_ n4_ n5_ n6_; clear hb hbox hg; have hnb51 := NB23008_23002.out; have hnc51 := NB23002_23008.out; have hcz52_0 : w50.cell? ⟨gb23008, 0, none⟩ = some (.int .i64 0) := (blk_cell BK23008.out 0).trans rfl; have hcz52_1 : w50.cell? ⟨gb23008, 1, none⟩ = some (.int .i64 0) := (blk_cell BK23008.out 1).trans rfl; have hcz52_2 : w50.cell? ⟨gb23008, 2, none⟩ = some (.int .i64 0) := (blk_cell BK23008.out 2).trans rfl; have hcz52_3 : w50.cell? ⟨gb23008, 3, none⟩ = some (.int .i64 0) := (blk_cell BK23008.out 3).trans rfl; have hfz52_0 := blk_frozen BK23008.out 0; have hfz52_1 := blk_frozen BK23008.out 1; have hfz52_2 := blk_frozen BK23008.out 2; have hfz52_3 := blk_frozen BK23008.out 3; have hcz53_0 : w50.cell? ⟨gb23002, 0, none⟩ = some (.int .i64 ((rd_T50 l0 x32_2).f0)) := (blk_cell BK23002.out 0).trans rfl; have hcz53_1 : w50.cell? ⟨gb23002, 1, none⟩ = some (.int .i64 ((rd_T50 l0 x32_2).f1)) := (blk_cell BK23002.out 1).trans rfl; have hcz53_2 : w50.cell? ⟨gb23002, 2, none⟩ = some (.int .i64 ((rd_T50 l0 x32_2).f2)) := (blk_cell BK23002.out 2).trans rfl; have hcz53_3 : w50.cell? ⟨gb23002, 3, none⟩ = some (.int .i64 ((rd_T50 l0 x32_2).f3)) := (blk_cell BK23002.out 3).trans rfl; have hfz53_0 := blk_frozen BK23002.out 0; have hfz53_1 := blk_frozen BK23002.out 1; have hfz53_2 := blk_frozen BK23002.out 2; have hfz53_3 := blk_frozen BK23002.out 3))
                                            go_roundg k4
                                            case measure => have := HJ3.out; have := HK2.out; have := HJ12.out; have := HK4.out; omega
                                            case rel => exact ⟨(wrap64 (x89_4 + 1)), (by first | rfl | (simp; done) | (simp [*]; done)), H', ⟨by have := HJ3.out; have := HK2.out; have := HJ12.out; have := HK4.out; omega⟩, ⟨by (with_reducible repeat (first | refine blk_drewN ?_ _ | refine blk_drew ?_ | refine blk_alloc ?_ _)); refine blk_far ?_ NB23002_23008.out _; (with_reducible repeat (first | refine blk_drewN ?_ _ | refine blk_drew ?_ | refine blk_alloc ?_ _)); refine blk_far ?_ NB23002_23008.out _; (with_reducible repeat (first | refine blk_drewN ?_ _ | refine blk_drew ?_ | refine blk_alloc ?_ _)); refine blk_far ?_ NB23002_23008.out _; (with_reducible repeat (first | refine blk_drewN ?_ _ | refine blk_drew ?_ | refine blk_alloc ?_ _)); refine blk_far ?_ NB23002_23008.out _; (with_reducible repeat (first | refine blk_drewN ?_ _ | refine blk_drew ?_ | refine blk_alloc ?_ _)); exact BK23002.out⟩, ⟨by repeat (first | (with_reducible first | exact HB.out | apply below_alloc | apply pw_below_drewN | apply below_drew1 | refine below_set ?_ GE23002.out | refine below_set ?_ GE23008.out) | exact HB.out)⟩⟩
                                        · rw [if_neg c39] at H
                                          have c39b0 : decide (((rd_T50 y23003 x89_4).f0) < (wrap64 (((rd_T50 l0 x32_2).f0) + ((rd_T50 l0 x32_2).f2)))) = false := decide_eq_false c39
                                          clear c39
                                          have H' := Aside0.mk H
                                          clear H
                                          have p23007 : 0 ≤ (x89_4 : Int) := of_decide_eq_true (by first | (with_reducible assumption) | assumption)
                                          have q23007 : x89_4 < (y23003.length : Int) := of_decide_eq_true (by first | (with_reducible assumption) | assumption)
                                          obtain ⟨ad23007, e23007, hx23007_0, hx23007_1, hx23007_2, hx23007_3⟩ := at_T50 HR23006.out x89_4 p23007 q23007
                                          obtain rfl : ad23001 = ad23007 := (by injection e23007)
                                          replace hx23007_0 := (HB.out.cell (World.block_lt_of_cell? w _ hx23007_0)).trans hx23007_0
                                          replace hx23007_1 := (HB.out.cell (World.block_lt_of_cell? w _ hx23007_1)).trans hx23007_1
                                          replace hx23007_2 := (HB.out.cell (World.block_lt_of_cell? w _ hx23007_2)).trans hx23007_2
                                          replace hx23007_3 := (HB.out.cell (World.block_lt_of_cell? w _ hx23007_3)).trans hx23007_3
                                          replace p23007 := eq_true p23007
                                          replace q23007 := eq_true q23007
                                          go_wp2_with (first | ((with_reducible refine gate_dst (N := 10) rfl ?_); refine box_event ?hg (N := 10) ?hd (cs := #[.int .i64 0, .int .i64 0, .int .i64 0, .int .i64 0]) (t := 50) ?hr ?_; (case hd => rfl); (case hg => rfl); (case hr => first | (go_simp; done) | (go_simp; rfl)); intro gb23008 hg w54 hbox hb; have n0_ := Aside0.mk (blk_below (g := gb23002) (o := .cells #[.int .i64 ((rd_T50 l0 x32_2).f0), .int .i64 ((rd_T50 l0 x32_2).f1), .int .i64 ((rd_T50 l0 x32_2).f2), .int .i64 ((rd_T50 l0 x32_2).f3)] 50 (0, 0)) (by (with_reducible repeat (first | refine blk_drewN ?_ _ | refine blk_drew ?_ | refine blk_alloc ?_ _)); exact BK23002.out) hb); have n1_ := Aside0.mk (below_step (by repeat (first | (with_reducible first | exact HB.out | apply below_alloc | apply pw_below_drewN | apply below_drew1 | refine below_set ?_ GE23002.out) | exact HB.out)) hb); have n2_ := Aside0.mk (hbox); have n3_ := Aside0.mk ((by rw [hg]; exact (below_size (by repeat (first | (with_reducible first | exact HB.out | apply below_alloc | apply pw_below_drewN | apply below_drew1 | refine below_set ?_ GE23002.out) | exact HB.out))) : w.heap.size ≤ gb23008)); have n4_ := Aside0.mk ((by rw [hg]; exact (below_size (by repeat (first | (with_reducible first | exact HB.out | apply below_alloc | apply pw_below_drewN | apply below_drew1 | refine below_set ?_ GE23002.out) | exact HB.out))) : w.heap.size ≤ gb23008)); have n5_ := Aside0.mk ((by rw [hg]; exact Nat.ne_of_lt (blk_lt (g := gb23002) (o := .cells #[.int .i64 ((rd_T50 l0 x32_2).f0), .int .i64 ((rd_T50 l0 x32_2).f1), .int .i64 ((rd_T50 l0 x32_2).f2), .int .i64 ((rd_T50 l0 x32_2).f3)] 50 (0, 0)) (by (with_reducible repeat (first | refine blk_drewN ?_ _ | refine blk_drew ?_ | refine blk_alloc ?_ _)); exact BK23002.out)) : gb23002 ≠ gb23008)); have n6_ := Aside0.mk ((by rw [hg]; exact Nat.ne_of_gt (blk_lt (g := gb23002) (o := .cells #[.int .i64 ((rd_T50 l0 x32_2).f0), .int .i64 ((rd_T50 l0 x32_2).f1), .int .i64 ((rd_T50 l0 x32_2).f2), .int .i64 ((rd_T50 l0 x32_2).f3)] 50 (0, 0)) (by (with_reducible repeat (first | refine blk_drewN ?_ _ | refine blk_drew ?_ | refine blk_alloc ?_ _)); exact BK23002.out)) : gb23008 ≠ gb23002)); clear BK23002; clear HB; have BK23002 := n0_; have HB := n1_; have BK23008 := n2_; have GW23008 := n3_; have GE23008 := n4_; have NB23002_23008 := n5_; have NB23008_23002 := n6_; clear n0_ n1_ n2_ n3_ n4_ n5_ n6_; clear hb hbox hg; have hnb55 := NB23008_23002.out; have hnc55 := NB23002_23008.out; have hcz56_0 : w54.cell? ⟨gb23008, 0, none⟩ = some (.int .i64 0) := (blk_cell BK23008.out 0).trans rfl; have hcz56_1 : w54.cell? ⟨gb23008, 1, none⟩ = some (.int .i64 0) := (blk_cell BK23008.out 1).trans rfl; have hcz56_2 : w54.cell? ⟨gb23008, 2, none⟩ = some (.int .i64 0) := (blk_cell BK23008.out 2).trans rfl; have hcz56_3 : w54.cell? ⟨gb23008, 3, none⟩ = some (.int .i64 0) := (blk_cell BK23008.out 3).trans rfl; have hfz56_0 := blk_frozen BK23008.out 0; have hfz56_1 := blk_frozen BK23008.out 1; have hfz56_2 := blk_frozen BK23008.out 2; have hfz56_3 := blk_frozen BK23008.out 3; have hcz57_0 : w54.cell? ⟨gb23002, 0, none⟩ = some (.int .i64 ((rd_T50 l0 x32_2).f0)) := (blk_cell BK23002.out 0).trans rfl; have hcz57_1 : w54.cell? ⟨gb23002, 1, none⟩ = some (.int .i64 ((rd_T50 l0 x32_2).f1)) := (blk_cell BK23002.out 1).trans rfl; have hcz57_2 : w54.cell? ⟨gb23002, 2, none⟩ = some (.int .i64 ((rd_T50 l0 x32_2).f2)) := (blk_cell BK23002.out 2).trans rfl; have hcz57_3 : w54.cell? ⟨gb23002, 3, none⟩ = some (.int .i64 ((rd_T50 l0 x32_2).f3)) := (blk_cell BK23002.out 3).trans rfl; have hfz57_0 := blk_frozen BK23002.out 0; have hfz57_1 := blk_frozen BK23002.out 1; have hfz57_2 := blk_frozen BK23002.out 2; have hfz57_3 := blk_frozen BK23002.out 3))
                                          go_roundg k4
                                          case measure => have := HJ3.out; have := HK2.out; have := HJ12.out; have := HK4.out; omega
                                          case rel => exact ⟨(wrap64 (x89_4 + 1)), (by first | rfl | (simp; done) | (simp [*]; done)), H', ⟨by have := HJ3.out; have := HK2.out; have := HJ12.out; have := HK4.out; omega⟩, ⟨by (with_reducible repeat (first | refine blk_drewN ?_ _ | refine blk_drew ?_ | refine blk_alloc ?_ _)); refine blk_far ?_ NB23002_23008.out _; (with_reducible repeat (first | refine blk_drewN ?_ _ | refine blk_drew ?_ | refine blk_alloc ?_ _)); refine blk_far ?_ NB23002_23008.out _; (with_reducible repeat (first | refine blk_drewN ?_ _ | refine blk_drew ?_ | refine blk_alloc ?_ _)); refine blk_far ?_ NB23002_23008.out _; (with_reducible repeat (first | refine blk_drewN ?_ _ | refine blk_drew ?_ | refine blk_alloc ?_ _)); refine blk_far ?_ NB23002_23008.out _; (with_reducible repeat (first | refine blk_drewN ?_ _ | refine blk_drew ?_ | refine blk_alloc ?_ _)); exact BK23002.out⟩, ⟨by repeat (first | (with_reducible first | exact HB.out | apply below_alloc | apply pw_below_drewN | apply below_drew1 | refine below_set ?_ GE23002.out | refine below_set ?_ GE23008.out) | exact HB.out)⟩⟩
                                      · rw [if_neg c38] at H
                                        have c38b0 : decide (((rd_T50 l0 x32_2).f0) < (wrap64 (((rd_T50 y23003 x89_4).f0) + ((rd_T50 y23003 x89_4).f2)))) = false := decide_eq_false c38
                                        clear c38
                                        have H' := Aside0.mk H
                                        clear H
                                        have p23007 : 0 ≤ (x89_4 : Int) := of_decide_eq_true (by first | (with_reducible assumption) | assumption)
                                        have q23007 : x89_4 < (y23003.length : Int) := of_decide_eq_true (by first | (with_reducible assumption) | assumption)
                                        obtain ⟨ad23007, e23007, hx23007_0, hx23007_1, hx23007_2, hx23007_3⟩ := at_T50 HR23006.out x89_4 p23007 q23007
                                        obtain rfl : ad23001 = ad23007 := (by injection e23007)
                                        replace hx23007_0 := (HB.out.cell (World.block_lt_of_cell? w _ hx23007_0)).trans hx23007_0
                                        replace hx23007_1 := (HB.out.cell (World.block_lt_of_cell? w _ hx23007_1)).trans hx23007_1
                                        replace hx23007_2 := (HB.out.cell (World.block_lt_of_cell? w _ hx23007_2)).trans hx23007_2
                                        replace hx23007_3 := (HB.out.cell (World.block_lt_of_cell? w _ hx23007_3)).trans hx23007_3
                                        replace p23007 := eq_true p23007
                                        replace q23007 := eq_true q23007
                                        go_wp2_with (first | ((with_reducible refine gate_dst (N := 10) rfl ?_); refine box_event ?hg (N := 10) ?hd (cs := #[.int .i64 0, .int .i64 0, .int .i64 0, .int .i64 0]) (t := 50) ?hr ?_; (case hd => rfl); (case hg => rfl); (case hr => first | (go_simp; done) | (go_simp; rfl)); intro gb23008 hg w58 hbox hb; have n0_ := Aside0.mk (blk_below (g := gb23002) (o := .cells #[.int .i64 ((rd_T50 l0 x32_2).f0), .int .i64 ((rd_T50 l0 x32_2).f1), .int .i64 ((rd_T50 l0 x32_2).f2), .int .i64 ((rd_T50 l0 x32_2).f3)] 50 (0, 0)) (by (with_reducible repeat (first | refine blk_drewN ?_ _ | refine blk_drew ?_ | refine blk_alloc ?_ _)); exact BK23002.out) hb); have n1_ := Aside0.mk (below_step (by repeat (first | (with_reducible first | exact HB.out | apply below_alloc | apply pw_below_drewN | apply below_drew1 | refine below_set ?_ GE23002.out) | exact HB.out)) hb); have n2_ := Aside0.mk (hbox); have n3_ := Aside0.mk ((by rw [hg]; exact (below_size (by repeat (first | (with_reducible first | exact HB.out | apply below_alloc | apply pw_below_drewN | apply below_drew1 | refine below_set ?_ GE23002.out) | exact HB.out))) : w.heap.size ≤ gb23008)); have n4_ := Aside0.mk ((by rw [hg]; exact (below_size (by repeat (first | (with_reducible first | exact HB.out | apply below_alloc | apply pw_below_drewN | apply below_drew1 | refine below_set ?_ GE23002.out) | exact HB.out))) : w.heap.size ≤ gb23008)); have n5_ := Aside0.mk ((by rw [hg]; exact Nat.ne_of_lt (blk_lt (g := gb23002) (o := .cells #[.int .i64 ((rd_T50 l0 x32_2).f0), .int .i64 ((rd_T50 l0 x32_2).f1), .int .i64 ((rd_T50 l0 x32_2).f2), .int .i64 ((rd_T50 l0 x32_2).f3)] 50 (0, 0)) (by (with_reducible repeat (first | refine blk_drewN ?_ _ | refine blk_drew ?_ | refine blk_alloc ?_ _)); exact BK23002.out)) : gb23002 ≠ gb23008)); have n6_ := Aside0.mk ((by rw [hg]; exact Nat.ne_of_gt (blk_lt (g := gb23002) (o := .cells #[.int .i64 ((rd_T50 l0 x32_2).f0), .int .i64 ((rd_T50 l0 x32_2).f1), .int .i64 ((rd_T50 l0 x32_2).f2), .int .i64 ((rd_T50 l0 x32_2).f3)] 50 (0, 0)) (by (with_reducible repeat (first | refine blk_drewN ?_ _ | refine blk_drew ?_ | refine blk_alloc ?_ _)); exact BK23002.out)) : gb23008 ≠ gb23002)); clear BK23002; clear HB; have BK23002 := n0_; have HB := n1_; have BK23008 := n2_; have GW23008 := n3_; have GE23008 := n4_; have NB23002_23008 := n5_; have NB23008_23002 := n6_; clear n0_ n1_ n2_ n3_ n4_ n5_ n6_; clear hb hbox hg; have hnb59 := NB23008_23002.out; have hnc59 := NB23002_23008.out; have hcz60_0 : w58.cell? ⟨gb23008, 0, none⟩ = some (.int .i64 0) := (blk_cell BK23008.out 0).trans rfl; have hcz60_1 : w58.cell? ⟨gb23008, 1, none⟩ = some (.int .i64 0) := (blk_cell BK23008.out 1).trans rfl; have hcz60_2 : w58.cell? ⟨gb23008, 2, none⟩ = some (.int .i64 0) := (blk_cell BK23008.out 2).trans rfl; have hcz60_3 : w58.cell? ⟨gb23008, 3, none⟩ = some (.int .i64 0) := (blk_cell BK23008.out 3).trans rfl; have hfz60_0 := blk_frozen BK23008.out 0; have hfz60_1 := blk_frozen BK23008.out 1; have hfz60_2 := blk_frozen BK23008.out 2; have hfz60_3 := blk_frozen BK23008.out 3; have hcz61_0 : w58.cell? ⟨gb23002, 0, none⟩ = some (.int .i64 ((rd_T50 l0 x32_2).f0)) := (blk_cell BK23002.out 0).trans rfl; have hcz61_1 : w58.cell? ⟨gb23002, 1, none⟩ = some (.int .i64 ((rd_T50 l0 x32_2).f1)) := (blk_cell BK23002.out 1).trans rfl; have hcz61_2 : w58.cell? ⟨gb23002, 2, none⟩ = some (.int .i64 ((rd_T50 l0 x32_2).f2)) := (blk_cell BK23002.out 2).trans rfl; have hcz61_3 : w58.cell? ⟨gb23002, 3, none⟩ = some (.int .i64 ((rd_T50 l0 x32_2).f3)) := (blk_cell BK23002.out 3).trans rfl; have hfz61_0 := blk_frozen BK23002.out 0; have hfz61_1 := blk_frozen BK23002.out 1; have hfz61_2 := blk_frozen BK23002.out 2; have hfz61_3 := blk_frozen BK23002.out 3))
                                        go_roundg k4
                                        case measure => have := HJ3.out; have := HK2.out; have := HJ12.out; have := HK4.out; omega
                                        case rel => exact ⟨(wrap64 (x89_4 + 1)), (by first | rfl | (simp; done) | (simp [*]; done)), H', ⟨by have := HJ3.out; have := HK2.out; have := HJ12.out; have := HK4.out; omega⟩, ⟨by (with_reducible repeat (first | refine blk_drewN ?_ _ | refine blk_drew ?_ | refine blk_alloc ?_ _)); refine blk_far ?_ NB23002_23008.out _; (with_reducible repeat (first | refine blk_drewN ?_ _ | refine blk_drew ?_ | refine blk_alloc ?_ _)); refine blk_far ?_ NB23002_23008.out _; (with_reducible repeat (first | refine blk_drewN ?_ _ | refine blk_drew ?_ | refine blk_alloc ?_ _)); refine blk_far ?_ NB23002_23008.out _; (with_reducible repeat (first | refine blk_drewN ?_ _ | refine blk_drew ?_ | refine blk_alloc ?_ _)); refine blk_far ?_ NB23002_23008.out _; (with_reducible repeat (first | refine blk_drewN ?_ _ | refine blk_drew ?_ | refine blk_alloc ?_ _)); exact BK23002.out⟩, ⟨by repeat (first | (with_reducible first | exact HB.out | apply below_alloc | apply pw_below_drewN | apply below_drew1 | refine below_set ?_ GE23002.out | refine below_set ?_ GE23008.out) | exact HB.out)⟩⟩
                                    · rw [if_neg c37] at H
                                      exact absurd H (by simp)
                                  · rw [if_neg c36] at H
                                    exact absurd H (by simp)
                                · rw [if_neg c35] at H
                                  have c35b0 : decide (x89_4 < (y23003.length : Int)) = false := decide_eq_false c35
                                  clear c35
                                  have H' := Aside0.mk H
                                  clear H
                                  go_wp2
                                  go_roundg k4
                                  case measure => have := HJ3.out; have := HK2.out; have := HJ12.out; have := HK4.out; omega
                                  case rel => exact ⟨(wrap64 (x32_2 + 1)), (by first | rfl | (simp; done) | (simp [*]; done)), H', ⟨by have := HJ3.out; have := HK2.out; have := HJ12.out; have := HK4.out; omega⟩, ⟨by repeat (first | (with_reducible first | exact HB.out | apply below_alloc | apply pw_below_drewN | apply below_drew1 | refine below_set ?_ GE23002.out) | exact HB.out)⟩⟩
                          · rw [if_neg c33] at H
                            exact absurd H (by simp)
                        · rw [if_neg c32] at H
                          exact absurd H (by simp)
                · rw [if_neg c12] at H
                  exact absurd H (by simp)
              · rw [if_neg c11] at H
                exact absurd H (by simp)
            · rw [if_neg c10] at H
              have c10b0 : decide (x32_2 < (l0.length : Int)) = false := decide_eq_false c10
              clear c10
              obtain rfl := Option.some.inj H
              go_wp2
              go_ret
              exact ⟨by first | rfl | (simp [errW_none, errW_some] <;> rfl) | (simp [*, errW_none, errW_some] <;> rfl), by repeat (first | (with_reducible first | exact HB.out | apply below_alloc | apply pw_below_drewN | apply below_drew1) | exact HB.out)⟩

end Go.Proofs.Ytgfjccegehnjcaa.Q

namespace Go.Proofs.Ytgfjccegehnjcaa.Q
open Go.RowKit Go.Proofs.YtgfjccegehnjcaaW.PrintWords Go.Proofs.YtgfjccegehnjcaaW.PrintLast Go.Proofs.YtgfjccegehnjcaaW.PrintMore
attribute [local go_sem] max2_int min2_int max_two min_two max_three min_three max_four min_four
set_option linter.unusedVariables false
set_option linter.unusedSimpArgs false
/-! ### laws_eqBox: function 54 -/
def laws_eqBox.f (a0_0 : Int) (a0_1 : Int) (a0_2 : Int) (a0_3 : Int) (a1_0 : Int) (a1_1 : Int) (a1_2 : Int) (a1_3 : Int) : Option (Bool) := if a0_0 = a1_0 then (if a0_1 = a1_1 then (if a0_2 = a1_2 then (if a0_3 = a1_3 then (some true) else (some false)) else (some false)) else (some false)) else (some false)
set_option maxHeartbeats 8000000 in
set_option maxRecDepth 100000 in
theorem laws_eqBox.calls (a0_0 : Int) (a0_1 : Int) (a0_2 : Int) (a0_3 : Int) (a1_0 : Int) (a1_1 : Int) (a1_2 : Int) (a1_3 : Int) (r : Bool) (w : World) (h : laws_eqBox.f a0_0 a0_1 a0_2 a0_3 a1_0 a1_1 a1_2 a1_3 = some r) :
    Calls Try.prog 54 #[.agg #[.int .i64 a0_0, .int .i64 a0_1, .int .i64 a0_2, .int .i64 a0_3], .agg #[.int .i64 a1_0, .int .i64 a1_1, .int .i64 a1_2, .int .i64 a1_3]] w fun e w' => e = .returned (.bool r) ∧ Below w.heap.size w w' := by
  have hu50 := Try.underlying50
  have HB := Aside0.mk (Below.refl w.heap.size w)
  have H : (if a0_0 = a1_0 then (if a0_1 = a1_1 then (if a0_2 = a1_2 then (if a0_3 = a1_3 then (some true) else (some false)) else (some false)) else (some false)) else (some false)) = some r := h
  clear h
  by_cases c3 : a0_0 = a1_0
  · rw [if_pos c3] at H
    have c3b0 : (a0_0 == a1_0) = true := beq_iff_eq.mpr c3
    have c3b1 : (a0_0 != a1_0) = false := bne_eq_false_iff_eq.mpr c3
    clear c3
    by_cases c4 : a0_1 = a1_1
    · rw [if_pos c4] at H
      have c4b0 : (a0_1 == a1_1) = true := beq_iff_eq.mpr c4
      have c4b1 : (a0_1 != a1_1) = false := bne_eq_false_iff_eq.mpr c4
      clear c4
      by_cases c5 : a0_2 = a1_2
      · rw [if_pos c5] at H
        have c5b0 : (a0_2 == a1_2) = true := beq_iff_eq.mpr c5
        have c5b1 : (a0_2 != a1_2) = false := bne_eq_false_iff_eq.mpr c5
        clear c5
        by_cases c6 : a0_3 = a1_3
        · rw [if_pos c6] at H
          have c6b0 : (a0_3 == a1_3) = true := beq_iff_eq.mpr c6
          have c6b1 : (a0_3 != a1_3) = false := bne_eq_false_iff_eq.mpr c6
          clear c6
          obtain rfl := Option.some.inj H
          go_enter Try.func54, Try.ntmps54
          go_wp2_with (first | ((with_reducible refine gate_dst (N := 2) rfl ?_); refine box_event ?hg (N := 2) ?hd (cs := #[.int .i64 a0_0, .int .i64 a0_1, .int .i64 a0_2, .int .i64 a0_3]) (t := 50) ?hr ?_; (case hd => rfl); (case hg => rfl); (case hr => first | (go_simp; done) | (go_simp; rfl)); intro gb55001 hg w7 hbox hb; have n0_ := Aside0.mk (below_step (by repeat (first | (with_reducible first | exact HB.out | apply below_alloc | apply pw_below_drewN | apply below_drew1) | exact HB.out)) hb); have n1_ := Aside0.mk (hbox); have n2_ := Aside0.mk ((by rw [hg]; exact (below_size (by repeat (first | (with_reducible first | exact HB.out | apply below_alloc | apply pw_below_drewN | apply below_drew1) | exact HB.out))) : w.heap.size ≤ gb55001)); have n3_ := Aside0.mk ((by rw [hg]; exact (below_size (by repeat (first | (with_reducible first | exact HB.out | apply below_alloc | apply pw_below_drewN | apply below_drew1) | exact HB.out))) : w.heap.size ≤ gb55001)); clear HB; have HB := n0_; have BK55001 := n1_; have GW55001 := n2_; have GE55001 := n3_; clear n0_ n1_ n2_ n3_; clear hb hbox hg) | ((with_reducible refine gate_dst (N := 3) rfl ?_); refine box_event ?hg (N := 3) ?hd (cs := #[.int .i64 a1_0, .int .i64 a1_1, .int .i64 a1_2, .int .i64 a1_3]) (t := 50) ?hr ?_; (case hd => rfl); (case hg => rfl); (case hr => first | (go_simp; done) | (go_simp; rfl)); intro gb55002 hg w8 hbox hb; have n0_ := Aside0.mk (blk_below (g := gb55001) (o := .cells #[.int .i64 a0_0, .int .i64 a0_1, .int .i64 a0_2, .int .i64 a0_3] 50 (0, 0)) (by (with_reducible repeat (first | refine blk_drewN ?_ _ | refine blk_drew ?_ | refine blk_alloc ?_ _)); exact BK55001.out) hb); have n1_ := Aside0.mk (below_step (by repeat (first | (with_reducible first | exact HB.out | apply below_alloc | apply pw_below_drewN | apply below_drew1 | refine below_set ?_ GE55001.out) | exact HB.out)) hb); have n2_ := Aside0.mk (hbox); have n3_ := Aside0.mk ((by rw [hg]; exact (below_size (by repeat (first | (with_reducible first | exact HB.out | apply below_alloc | apply pw_below_drewN | apply below_drew1 | refine below_set ?_ GE55001.out) | exact HB.out))) : w.heap.size ≤ gb55002)); have n4_ := Aside0.mk ((by rw [hg]; exact (below_size (by repeat (first | (with_reducible first | exact HB.out | apply below_alloc | apply pw_below_drewN | apply below_drew1 | refine below_set ?_ GE55001.out) | exact HB.out))) : w.heap.size ≤ gb55002)); have n5_ := Aside0.mk ((by rw [hg]; exact Nat.ne_of_lt (blk_lt (g := gb55001) (o := .cells #[.int .i64 a0_0, .int .i64 a0_1, .int .i64 a0_2, .int .i64 a0_3] 50 (0, 0)) (by (with_reducible repeat (first | refine blk_drewN ?_ _ | refine blk_drew ?_ | refine blk_alloc ?_ _)); exact BK55001.out)) : gb55001 ≠ gb55002)); have n6_ := Aside0.mk ((by rw [hg]; exact Nat.ne_of_gt (blk_lt (g := gb55001) (o := .cells #[.int .i64 a0_0, .int .i64 a0_1, .int .i64 a0_2, .int .i64 a0_3] 50 (0, 0)) (by (with_reducible repeat (first | refine blk_drewN ?_ _ | refine blk_drew ?_ | refine blk_alloc ?_ _)); exact BK55001.out)) : gb55002 ≠ gb55001)); clear BK55001; clear HB; have BK55001 := n0_; have HB := n1_; have BK55002 := n2_; have GW55002 := n3_; have GE55002 := n4_; have NB55001_55002 := n5_; have NB55002_55001 := n6_; clear n0_ n1_ n2_ n3_ n4_ n5_ n6_; clear hb hbox hg; have hnb9 := NB55001_55002.out; have hnc9 := NB55002_55001.out; have hcz10_0 : w8.cell? ⟨gb55001, 0, none⟩ = some (.int .i64 a0_0) := (blk_cell BK55001.out 0).trans rfl; have hcz10_1 : w8.cell? ⟨gb55001, 1, none⟩ = some (.int .i64 a0_1) := (blk_cell BK55001.out 1).trans rfl; have hcz10_2 : w8.cell? ⟨gb55001, 2, none⟩ = some (.int .i64 a0_2) := (blk_cell BK55001.out 2).trans rfl; have hcz10_3 : w8.cell? ⟨gb55001, 3, none⟩ = some (.int .i64 a0_3) := (blk_cell BK55001.out 3).trans rfl; have hfz10_0 := blk_frozen BK55001.out 0; have hfz10_1 := blk_frozen BK55001.out 1; have hfz10_2 := blk_frozen BK55001.out 2; have hfz10_3 := blk_frozen BK55001.out 3; have hcz11_0 : w8.cell? ⟨gb55002, 0, none⟩ = some (.int .i64 a1_0) := (blk_cell BK55002.out 0).trans rfl; have hcz11_1 : w8.cell? ⟨gb55002, 1, none⟩ = some (.int .i64 a1_1) := (blk_cell BK55002.out 1).trans rfl; have hcz11_2 : w8.cell? ⟨gb55002, 2, none⟩ = some (.int .i64 a1_2) := (blk_cell BK55002.out 2).trans rfl; have hcz11_3 : w8.cell? ⟨gb55002, 3, none⟩ = some (.int .i64 a1_3) := (blk_cell BK55002.out 3).trans rfl; have hfz11_0 := blk_frozen BK55002.out 0; have hfz11_1 := blk_frozen BK55002.out 1; have hfz11_2 := blk_frozen BK55002.out 2; have hfz11_3 := blk_frozen BK55002.out 3))
          go_ret
          exact ⟨by first | rfl | (simp [errW_none, errW_some] <;> rfl) | (simp [*, errW_none, errW_some] <;> rfl), by repeat (first | (with_reducible first | exact HB.out | apply below_alloc | apply pw_below_drewN | apply below_drew1 | refine below_set ?_ GE55001.out | refine below_set ?_ GE55002.out) | exact HB.out)⟩
        · rw [if_neg c6] at H
          have c6b0 : (a0_3 == a1_3) = false := beq_eq_false_iff_ne.mpr c6
          have c6b1 : (a0_3 != a1_3) = true := bne_iff_ne.mpr c6
          obtain rfl := Option.some.inj H
          go_enter Try.func54, Try.ntmps54
          go_wp2_with (first | ((with_reducible refine gate_dst (N := 2) rfl ?_); refine box_event ?hg (N := 2) ?hd (cs := #[.int .i64 a0_0, .int .i64 a0_1, .int .i64 a0_2, .int .i64 a0_3]) (t := 50) ?hr ?_; (case hd => rfl); (case hg => rfl); (case hr => first | (go_simp; done) | (go_simp; rfl)); intro gb55001 hg w12 hbox hb; have n0_ := Aside0.mk (below_step (by repeat (first | (with_reducible first | exact HB.out | apply below_alloc | apply pw_below_drewN | apply below_drew1) | exact HB.out)) hb); have n1_ := Aside0.mk (hbox); have n2_ := Aside0.mk ((by rw [hg]; exact (below_size (by repeat (first | (with_reducible first | exact HB.out | apply below_alloc | apply pw_below_drewN | apply below_drew1) | exact HB.out))) : w.heap.size ≤ gb55001)); have n3_ := Aside0.mk ((by rw [hg]; exact (below_size (by repeat (first | (with_reducible first | exact HB.out | apply below_alloc | apply pw_below_drewN | apply below_drew1) | exact HB.out))) : w.heap.size ≤ gb55001)); clear HB; have HB := n0_; have BK55001 := n1_; have GW55001 := n2_; have GE55001 := n3_; clear n0_ n1_ n2_ n3_; clear hb hbox hg) | ((with_reducible refine gate_dst (N := 3) rfl ?_); refine box_event ?hg (N := 3) ?hd (cs := #[.int .i64 a1_0, .int .i64 a1_1, .int .i64 a1_2, .int .i64 a1_3]) (t := 50) ?hr ?_; (case hd => rfl); (case hg => rfl); (case hr => first | (go_simp; done) | (go_simp; rfl)); intro gb55002 hg w13 hbox hb; have n0_ := Aside0.mk (blk_below (g := gb55001) (o := .cells #[.int .i64 a0_0, .int .i64 a0_1, .int .i64 a0_2, .int .i64 a0_3] 50 (0, 0)) (by (with_reducible repeat (first | refine blk_drewN ?_ _ | refine blk_drew ?_ | refine blk_alloc ?_ _)); exact BK55001.out) hb); have n1_ := Aside0.mk (below_step (by repeat (first | (with_reducible first | exact HB.out | apply below_alloc | apply pw_below_drewN | apply below_drew1 | refine below_set ?_ GE55001.out) | exact HB.out)) hb); have n2_ := Aside0.mk (hbox); have n3_ := Aside0.mk ((by rw [hg]; exact (below_size (by repeat (first | (with_reducible first | exact HB.out | apply below_alloc | apply pw_below_drewN | apply below_drew1 | refine below_set ?_ GE55001.out) | exact HB.out))) : w.heap.size ≤ gb55002)); have n4_ := Aside0.mk ((by rw [hg]; exact (below_size (by repeat (first | (with_reducible first | exact HB.out | apply below_alloc | apply pw_below_drewN | apply below_drew1 | refine below_set ?_ GE55001.out) | exact HB.out))) : w.heap.size ≤ gb55002)); have n5_ := Aside0.mk ((by rw [hg]; exact Nat.ne_of_lt (blk_lt (g := gb55001) (o := .cells #[.int .i64 a0_0, .int .i64 a0_1, .int .i64 a0_2, .int .i64 a0_3] 50 (0, 0)) (by (with_reducible repeat (first | refine blk_drewN ?_ _ | refine blk_drew ?_ | refine blk_alloc ?_ _)); exact BK55001.out)) : gb55001 ≠ gb55002)); have n6_ := Aside0.mk ((by rw [hg]; exact Nat.ne_of_gt (blk_lt (g := gb55001) (o := .cells #[.int .i64 a0_0, .int .i64 a0_1, .int .i64 a0_2, .int .i64 a0_3] 50 (0, 0)) (by (with_reducible repeat (first | refine blk_drewN ?_ _ | refine blk_drew ?_ | refine blk_alloc ?_ _)); exact BK55001.out)) : gb55002 ≠ gb55001)); clear BK55001; clear HB; have BK55001 := n0_; have HB := n1_; have BK55002 := n2_; have GW55002 := n3_; have GE55002 := n4_; have NB55001_55002 := n5_; have NB55002_55001 := n6_; clear n0_ n1_ n2_ n3_ n4_ n5_ n6_; clear hb hbox hg; have hnb14 := NB55001_55002.out; have hnc14 := NB55002_55001.out; have hcz15_0 : w13.cell? ⟨gb55001, 0, none⟩ = some (.int .i64 a0_0) := (blk_cell BK55001.out 0).trans rfl; have hcz15_1 : w13.cell? ⟨gb55001, 1, none⟩ = some (.int .i64 a0_1) := (blk_cell BK55001.out 1).trans rfl; have hcz15_2 : w13.cell? ⟨gb55001, 2, none⟩ = some (.int .i64 a0_2) := (blk_cell BK55001.out 2).trans rfl; have hcz15_3 : w13.cell? ⟨gb55001, 3, none⟩ = some (.int .i64 a0_3) := (blk_cell BK55001.out 3).trans rfl; have hfz15_0 := blk_frozen BK55001.out 0; have hfz15_1 := blk_frozen BK55001.out 1; have hfz15_2 := blk_frozen BK55001.out 2; have hfz15_3 := blk_frozen BK55001.out 3; have hcz16_0 : w13.cell? ⟨gb55002, 0, none⟩ = some (.int .i64 a1_0) := (blk_cell BK55002.out 0).trans rfl; have hcz16_1 : w13.cell? ⟨gb55002, 1, none⟩ = some (.int .i64 a1_1) := (blk_cell BK55002.out 1).trans rfl; have hcz16_2 : w13.cell? ⟨gb55002, 2, none⟩ = some (.int .i64 a1_2) := (blk_cell BK55002.out 2).trans rfl; have hcz16_3 : w13.cell? ⟨gb55002, 3, none⟩ = some (.int .i64 a1_3) := (blk_cell BK55002.out 3).trans rfl; have hfz16_0 := blk_frozen BK55002.out 0; have hfz16_1 := blk_frozen BK55002.out 1; have hfz16_2 := blk_frozen BK55002.out 2; have hfz16_3 := blk_frozen BK55002.out 3))
          go_ret
          exact ⟨by first | rfl | (simp [errW_none, errW_some] <;> rfl) | (simp [*, errW_none, errW_some] <;> rfl), by repeat (first | (with_reducible first | exact HB.out | apply below_alloc | apply pw_below_drewN | apply below_drew1 | refine below_set ?_ GE55001.out | refine below_set ?_ GE55002.out) | exact HB.out)⟩
      · rw [if_neg c5] at H
        have c5b0 : (a0_2 == a1_2) = false := beq_eq_false_iff_ne.mpr c5
        have c5b1 : (a0_2 != a1_2) = true := bne_iff_ne.mpr c5
        obtain rfl := Option.some.inj H
        go_enter Try.func54, Try.ntmps54
        go_wp2_with (first | ((with_reducible refine gate_dst (N := 2) rfl ?_); refine box_event ?hg (N := 2) ?hd (cs := #[.int .i64 a0_0, .int .i64 a0_1, .int .i64 a0_2, .int .i64 a0_3]) (t := 50) ?hr ?_; (case hd => rfl); (case hg => rfl); (case hr => first | (go_simp; done) | (go_simp; rfl)); intro gb55001 hg w17 hbox hb; have n0_ := Aside0.mk (below_step (by repeat (first | (with_reducible first | exact HB.out | apply below_alloc | apply pw_below_drewN | apply below_drew1) | exact HB.out)) hb); have n1_ := Aside0.mk (hbox); have n2_ := Aside0.mk ((by rw [hg]; exact (below_size (by repeat (first | (with_reducible first | exact HB.out | apply below_alloc | apply pw_below_drewN | apply below_drew1) | exact HB.out))) : w.heap.size ≤ gb55001)); have n3_ := Aside0.mk ((by rw [hg]; exact (below_size (by repeat (first | (with_reducible first | exact HB.out | apply below_alloc | apply pw_below_drewN | apply below_drew1) | exact HB.out))) : w.heap.size ≤ gb55001)); clear HB; have HB := n0_; have BK55001 := n1_; have GW55001 := n2_; have GE55001 := n3_; clear n0_ n1_ n2_ n3_; clear hb hbox hg) | ((with_reducible refine gate_dst (N := 3) rfl ?_); refine box_event ?hg (N := 3) ?hd (cs := #[.int .i64 a1_0, .int .i64 a1_1, .int .i64 a1_2, .int .i64 a1_3]) (t := 50) ?hr ?_; (case hd => rfl); (case hg => rfl); (case hr => first | (go_simp; done) | (go_simp; rfl)); intro gb55002 hg w18 hbox hb; have n0_ := Aside0.mk (blk_below (g := gb55001) (o := .cells #[.int .i64 a0_0, .int .i64 a0_1, .int .i64 a0_2, .int .i64 a0_3] 50 (0, 0)) (by (with_reducible repeat (first | refine blk_drewN ?_ _ | refine blk_drew ?_ | refine blk_alloc ?_ _)); exact BK55001.out) hb); have n1_ := Aside0.mk (below_step (by repeat (first | (with_reducible first | exact HB.out | apply below_alloc | apply pw_below_drewN | apply below_drew1 | refine below_set ?_ GE55001.out) | exact HB.out)) hb); have n2_ := Aside0.mk (hbox); have n3_ := Aside0.mk ((by rw [hg]; exact (below_size (by repeat (first | (with_reducible first | exact HB.out | apply below_alloc | apply pw_below_drewN | apply below_drew1 | refine below_set ?_ GE55001.out) | exact HB.out))) : w.heap.size ≤ gb55002)); have n4_ := Aside0.mk ((by rw [hg]; exact (below_size (by repeat (first | (with_reducible first | exact HB.out | apply below_alloc | apply pw_below_drewN | apply below_drew1 | refine below_set ?_ GE55001.out) | exact HB.out))) : w.heap.size ≤ gb55002)); have n5_ := Aside0.mk ((by rw [hg]; exact Nat.ne_of_lt (blk_lt (g := gb55001) (o := .cells #[.int .i64 a0_0, .int .i64 a0_1, .int .i64 a0_2, .int .i64 a0_3] 50 (0, 0)) (by (with_reducible repeat (first | refine blk_drewN ?_ _ | refine blk_drew ?_ | refine blk_alloc ?_ _)); exact BK55001.out)) : gb55001 ≠ gb55002)); have n6_ := Aside0.mk ((by rw [hg]; exact Nat.ne_of_gt (blk_lt (g := gb55001) (o := .cells #[.int .i64 a0_0, .int .i64 a0_1, .int .i64 a0_2, .int .i64 a0_3] 50 (0, 0)) (by (with_reducible repeat (first | refine blk_drewN ?_ _ | refine blk_drew ?_ | refine blk_alloc ?_ _)); exact BK55001.out)) : gb55002 ≠ gb55001)); clear BK55001; clear HB; have BK55001 := n0_; have HB := n1_; have BK55002 := n2_; have GW55002 := n3_; have GE55002 := n4_; have NB55001_55002 := n5_; have NB55002_55001 := n6_; clear n0_ n1_ n2_ n3_ n4_ n5_ n6_; clear hb hbox hg; have hnb19 := NB55001_55002.out; have hnc19 := NB55002_55001.out; have hcz20_0 : w18.cell? ⟨gb55001, 0, none⟩ = some (.int .i64 a0_0) := (blk_cell BK55001.out 0).trans rfl; have hcz20_1 : w18.cell? ⟨gb55001, 1, none⟩ = some (.int .i64 a0_1) := (blk_cell BK55001.out 1).trans rfl; have hcz20_2 : w18.cell? ⟨gb55001, 2, none⟩ = some (.int .i64 a0_2) := (blk_cell BK55001.out 2).trans rfl; have hcz20_3 : w18.cell? ⟨gb55001, 3, none⟩ = some (.int .i64 a0_3) := (blk_cell BK55001.out 3).trans rfl; have hfz20_0 := blk_frozen BK55001.out 0; have hfz20_1 := blk_frozen BK55001.out 1; have hfz20_2 := blk_frozen BK55001.out 2; have hfz20_3 := blk_frozen BK55001.out 3; have hcz21_0 : w18.cell? ⟨gb55002, 0, none⟩ = some (.int .i64 a1_0) := (blk_cell BK55002.out 0).trans rfl; have hcz21_1 : w18.cell? ⟨gb55002, 1, none⟩ = some (.int .i64 a1_1) := (blk_cell BK55002.out 1).trans rfl; have hcz21_2 : w18.cell? ⟨gb55002, 2, none⟩ = some (.int .i64 a1_2) := (blk_cell BK55002.out 2).trans rfl; have hcz21_3 : w18.cell? ⟨gb55002, 3, none⟩ = some (.int .i64 a1_3) := (blk_cell BK55002.out 3).trans rfl; have hfz21_0 := blk_frozen BK55002.out 0; have hfz21_1 := blk_frozen BK55002.out 1; have hfz21_2 := blk_frozen BK55002.out 2; have hfz21_3 := blk_frozen BK55002.out 3))
        go_ret
        exact ⟨by first | rfl | (simp [errW_none, errW_some] <;> rfl) | (simp [*, errW_none, errW_some] <;> rfl), by repeat (first | (with_reducible first | exact HB.out | apply below_alloc | apply pw_below_drewN | apply below_drew1 | refine below_set ?_ GE55001.out | refine below_set ?_ GE55002.out) | exact HB.out)⟩
    · rw [if_neg c4] at H
      have c4b0 : (a0_1 == a1_1) = false := beq_eq_false_iff_ne.mpr c4
      have c4b1 : (a0_1 != a1_1) = true := bne_iff_ne.mpr c4
      obtain rfl := Option.some.inj H
      go_enter Try.func54, Try.ntmps54
      go_wp2_with (first | ((with_reducible refine gate_dst (N := 2) rfl ?_); refine box_event ?hg (N := 2) ?hd (cs := #[.int .i64 a0_0, .int .i64 a0_1, .int .i64 a0_2, .int .i64 a0_3]) (t := 50) ?hr ?_; (case hd => rfl); (case hg => rfl); (case hr => first | (go_simp; done) | (go_simp; rfl)); intro gb55001 hg w22 hbox hb; have n0_ := Aside0.mk (below_step (by repeat (first | (with_reducible first | exact HB.out | apply below_alloc | apply pw_below_drewN | apply below_drew1) | exact HB.out)) hb); have n1_ := Aside0.mk (hbox); have n2_ := Aside0.mk ((by rw [hg]; exact (below_size (by repeat (first | (with_reducible first | exact HB.out | apply below_alloc | apply pw_below_drewN | apply below_drew1) | exact HB.out))) : w.heap.size ≤ gb55001)); have n3_ := Aside0.mk ((by rw [hg]; exact (below_size (by repeat (first | (with_reducible first | exact HB.out | apply below_alloc | apply pw_below_drewN | apply below_drew1) | exact HB.out))) : w.heap.size ≤ gb55001)); clear HB; have HB := n0_; have BK55001 := n1_; have GW55001 := n2_; have GE55001 := n3_; clear n0_ n1_ n2_ n3_; clear hb hbox hg) | ((with_reducible refine gate_dst (N := 3) rfl ?_); refine box_event ?hg (N := 3) ?hd (cs := #[.int .i64 a1_0, .int .i64 a1_1, .int .i64 a1_2, .int .i64 a1_3]) (t := 50) ?hr ?_; (case hd => rfl); (case hg => rfl); (case hr => first | (go_simp; done) | (go_simp; rfl)); intro gb55002 hg w23 hbox hb; have n0_ := Aside0.mk (blk_below (g := gb55001) (o := .cells #[.int .i64 a0_0, .int .i64 a0_1, .int .i64 a0_2, .int .i64 a0_3] 50 (0, 0)) (by (with_reducible repeat (first | refine blk_drewN ?_ _ | refine blk_drew ?_ | refine blk_alloc ?_ _)); exact BK55001.out) hb); have n1_ := Aside0.mk (below_step (by repeat (first | (with_reducible first | exact HB.out | apply below_alloc | apply pw_below_drewN | apply below_drew1 | refine below_set ?_ GE55001.out) | exact HB.out)) hb); have n2_ := Aside0.mk (hbox); have n3_ := Aside0.mk ((by rw [hg]; exact (below_size (by repeat (first | (with_reducible first | exact HB.out | apply below_alloc | apply pw_below_drewN | apply below_drew1 | refine below_set ?_ GE55001.out) | exact HB.out))) : w.heap.size ≤ gb55002)); have n4_ := Aside0.mk ((by rw [hg]; exact (below_size (by repeat (first | (with_reducible first | exact HB.out | apply below_alloc | apply pw_below_drewN | apply below_drew1 | refine below_set ?_ GE55001.out) | exact HB.out))) : w.heap.size ≤ gb55002)); have n5_ := Aside0.mk ((by rw [hg]; exact Nat.ne_of_lt (blk_lt (g := gb55001) (o := .cells #[.int .i64 a0_0, .int .i64 a0_1, .int .i64 a0_2, .int .i64 a0_3] 50 (0, 0)) (by (with_reducible repeat (first | refine blk_drewN ?_ _ | refine blk_drew ?_ | refine blk_alloc ?_ _)); exact BK55001.out)) : gb55001 ≠ gb55002)); have n6_ := Aside0.mk ((by rw [hg]; exact Nat.ne_of_gt (blk_lt (g := gb55001) (o := .cells #[.int .i64 a0_0, .int .i64 a0_1, .int .i64 a0_2, .int .i64 a0_3] 50 (0, 0)) (by (with_reducible repeat (first | refine blk_drewN ?_ _ | refine blk_drew ?_ | refine blk_alloc ?_ _)); exact BK55001.out)) : gb55002 ≠ gb55001)); clear BK55001; clear HB; have BK55001 := n0_; have HB := n1_; have BK55002 := n2_; have GW55002 := n3_; have GE55002 := n4_; have NB55001_55002 := n5_; have NB55002_55001 := n6_; clear n0_ n1_ n2_ n3_ n4_ n5_ n6_; clear hb hbox hg; have hnb24 := NB55001_55002.out; have hnc24 := NB55002_55001.out; have hcz25_0 : w23.cell? ⟨gb55001, 0, none⟩ = some (.int .i64 a0_0) := (blk_cell BK55001.out 0).trans rfl; have hcz25_1 : w23.cell? ⟨gb55001, 1, none⟩ = some (.int .i64 a0_1) := (blk_cell BK55001.out 1).trans rfl; have hcz25_2 : w23.cell? ⟨gb55001, 2, none⟩ = some (.int .i64 a0_2) := (blk_cell BK55001.out 2).trans rfl; have hcz25_3 : w23.cell? ⟨gb55001, 3, none⟩ = some (.int .i64 a0_3) := (blk_cell BK55001.out 3).trans rfl; have hfz25_0 := blk_frozen BK55001.out 0; have hfz25_1 := blk_frozen BK55001.out 1; have hfz25_2 := blk_frozen BK55001.out 2; have hfz25_3 := blk_frozen BK55001.out 3; have hcz26_0 : w23.cell? ⟨gb55002, 0, none⟩ = some (.int .i64 a1_0) := (blk_cell BK55002.out 0).trans rfl; have hcz26_1 : w23.cell? ⟨gb55002, 1, none⟩ = some (.int .i64 a1_1) := (blk_cell BK55002.out 1).trans rfl; have hcz26_2 : w23.cell? ⟨gb55002, 2, none⟩ = some (.int .i64 a1_2) := (blk_cell BK55002.out 2).trans rfl; have hcz26_3 : w23.cell? ⟨gb55002, 3, none⟩ = some (.int .i64 a1_3) := (blk_cell BK55002.out 3).trans rfl; have hfz26_0 := blk_frozen BK55002.out 0; have hfz26_1 := blk_frozen BK55002.out 1; have hfz26_2 := blk_frozen BK55002.out 2; have hfz26_3 := blk_frozen BK55002.out 3))
      go_ret
      exact ⟨by first | rfl | (simp [errW_none, errW_some] <;> rfl) | (simp [*, errW_none, errW_some] <;> rfl), by repeat (first | (with_reducible first | exact HB.out | apply below_alloc | apply pw_below_drewN | apply below_drew1 | refine below_set ?_ GE55001.out | refine below_set ?_ GE55002.out) | exact HB.out)⟩
  · rw [if_neg c3] at H
    have c3b0 : (a0_0 == a1_0) = false := beq_eq_false_iff_ne.mpr c3
    have c3b1 : (a0_0 != a1_0) = true := bne_iff_ne.mpr c3
    obtain rfl := Option.some.inj H
    go_enter Try.func54, Try.ntmps54
    go_wp2_with (first | ((with_reducible refine gate_dst (N := 2) rfl ?_); refine box_event ?hg (N := 2) ?hd (cs := #[.int .i64 a0_0, .int .i64 a0_1, .int .i64 a0_2, .int .i64 a0_3]) (t := 50) ?hr ?_; (case hd => rfl); (case hg => rfl); (case hr => first | (go_simp; done) | (go_simp; rfl)); intro gb55001 hg w27 hbox hb; have n0_ := Aside0.mk (below_step (by repeat (first | (with_reducible first | exact HB.out | apply below_alloc | apply pw_below_drewN | apply below_drew1) | exact HB.out)) hb); have n1_ := Aside0.mk (hbox); have n2_ := Aside0.mk ((by rw [hg]; exact (below_size (by repeat (first | (with_reducible first | exact HB.out | apply below_alloc | apply pw_below_drewN | apply below_drew1) | exact HB.out))) : w.heap.size ≤ gb55001)); have n3_ := Aside0.mk ((by rw [hg]; exact (below_size (by repeat (first | (with_reducible first | exact HB.out | apply below_alloc | apply pw_below_drewN | apply below_drew1) | exact HB.out))) : w.heap.size ≤ gb55001)); clear HB; have HB := n0_; have BK55001 := n1_; have GW55001 := n2_; have GE55001 := n3_; clear n0_ n1_ n2_ n3_; clear hb hbox hg) | ((with_reducible refine gate_dst (N := 3) rfl ?_); refine box_event ?hg (N := 3) ?hd (cs := #[.int .i64 a1_0, .int .i64 a1_1, .int .i64 a1_2, .int .i64 a1_3]) (t := 50) ?hr ?_; (case hd => rfl); (case hg => rfl); (case hr => first | (go_simp; done) | (go_simp; rfl)); intro gb55002 hg w28 hbox hb; have n0_ := Aside0.mk (blk_below (g := gb55001) (o := .cells #[.int .i64 a0_0, .int .i64 a0_1, .int .i64 a0_2, .int .i64 a0_3] 50 (0, 0)) (by (with_reducible repeat (first | refine blk_drewN ?_ _ | refine blk_drew ?_ | refine blk_alloc ?_ _)); exact BK55001.out) hb); have n1_ := Aside0.mk (below_step (by repeat (first | (with_reducible first | exact HB.out | apply below_alloc | apply pw_below_drewN | apply below_drew1 | refine below_set ?_ GE55001.out) | exact HB.out)) hb); have n2_ := Aside0.mk (hbox); have n3_ := Aside0.mk ((by rw [hg]; exact (below_size (by repeat (first | (with_reducible first | exact HB.out | apply below_alloc | apply pw_below_drewN | apply below_drew1 | refine below_set ?_ GE55001.out) | exact HB.out))) : w.heap.size ≤ gb55002)); have n4_ := Aside0.mk ((by rw [hg]; exact (below_size (by repeat (first | (with_reducible first | exact HB.out | apply below_alloc | apply pw_below_drewN | apply below_drew1 | refine below_set ?_ GE55001.out) | exact HB.out))) : w.heap.size ≤ gb55002)); have n5_ := Aside0.mk ((by rw [hg]; exact Nat.ne_of_lt (blk_lt (g := gb55001) (o := .cells #[.int .i64 a0_0, .int .i64 a0_1, .int .i64 a0_2, .int .i64 a0_3] 50 (0, 0)) (by (with_reducible repeat (first | refine blk_drewN ?_ _ | refine blk_drew ?_ | refine blk_alloc ?_ _)); exact BK55001.out)) : gb55001 ≠ gb55002)); have n6_ := Aside0.mk ((by rw [hg]; exact Nat.ne_of_gt (blk_lt (g := gb55001) (o := .cells #[.int .i64 a0_0, .int .i64 a0_1, .int .i64 a0_2, .int .i64 a0_3] 50 (0, 0)) (by (with_reducible repeat (first | refine blk_drewN ?_ _ | refine blk_drew ?_ | refine blk_alloc ?_ _)); exact BK55001.out)) : gb55002 ≠ gb55001)); clear BK55001; clear HB; have BK55001 := n0_; have HB := n1_; have BK55002 := n2_; have GW55002 := n3_; have GE55002 := n4_; have NB55001_55002 := n5_; have NB55002_55001 := n6_; clear n0_ n1_ n2_ n3_ n4_ n5_ n6_; clear hb hbox hg; have hnb29 := NB55001_55002.out; have hnc29 := NB55002_55001.out; have hcz30_0 : w28.cell? ⟨gb55001, 0, none⟩ = some (.int .i64 a0_0) := (blk_cell BK55001.out 0).trans rfl; have hcz30_1 : w28.cell? ⟨gb55001, 1, none⟩ = some (.int .i64 a0_1) := (blk_cell BK55001.out 1).trans rfl; have hcz30_2 : w28.cell? ⟨gb55001, 2, none⟩ = some (.int .i64 a0_2) := (blk_cell BK55001.out 2).trans rfl; have hcz30_3 : w28.cell? ⟨gb55001, 3, none⟩ = some (.int .i64 a0_3) := (blk_cell BK55001.out 3).trans rfl; have hfz30_0 := blk_frozen BK55001.out 0; have hfz30_1 := blk_frozen BK55001.out 1; have hfz30_2 := blk_frozen BK55001.out 2; have hfz30_3 := blk_frozen BK55001.out 3; have hcz31_0 : w28.cell? ⟨gb55002, 0, none⟩ = some (.int .i64 a1_0) := (blk_cell BK55002.out 0).trans rfl; have hcz31_1 : w28.cell? ⟨gb55002, 1, none⟩ = some (.int .i64 a1_1) := (blk_cell BK55002.out 1).trans rfl; have hcz31_2 : w28.cell? ⟨gb55002, 2, none⟩ = some (.int .i64 a1_2) := (blk_cell BK55002.out 2).trans rfl; have hcz31_3 : w28.cell? ⟨gb55002, 3, none⟩ = some (.int .i64 a1_3) := (blk_cell BK55002.out 3).trans rfl; have hfz31_0 := blk_frozen BK55002.out 0; have hfz31_1 := blk_frozen BK55002.out 1; have hfz31_2 := blk_frozen BK55002.out 2; have hfz31_3 := blk_frozen BK55002.out 3))
    go_ret
    exact ⟨by first | rfl | (simp [errW_none, errW_some] <;> rfl) | (simp [*, errW_none, errW_some] <;> rfl), by repeat (first | (with_reducible first | exact HB.out | apply below_alloc | apply pw_below_drewN | apply below_drew1 | refine below_set ?_ GE55001.out | refine below_set ?_ GE55002.out) | exact HB.out)⟩

end Go.Proofs.Ytgfjccegehnjcaa.Q

namespace Go.Proofs.Ytgfjccegehnjcaa.Q
open Go.RowKit Go.Proofs.YtgfjccegehnjcaaW.PrintWords Go.Proofs.YtgfjccegehnjcaaW.PrintLast Go.Proofs.YtgfjccegehnjcaaW.PrintMore
attribute [local go_sem] max2_int min2_int max_two min_two max_three min_three max_four min_four
set_option linter.unusedVariables false
set_option linter.unusedSimpArgs false
/-! ### laws_eqBoxS: function 23 -/
def laws_eqBoxS.l0 : Nat → List (S50) → List (S50) → Int → Option (Bool)
  | 0, _, _, _ => none
  | k + 1, x0, x1, x5 => if x5 < (x0.length : Int) then (if 0 ≤ x5 then (if x5 < (x1.length : Int) then ((laws_eqBox.f ((rd_T50 x0 x5).f0) ((rd_T50 x0 x5).f1) ((rd_T50 x0 x5).f2) ((rd_T50 x0 x5).f3) ((rd_T50 x1 x5).f0) ((rd_T50 x1 x5).f1) ((rd_T50 x1 x5).f2) ((rd_T50 x1 x5).f3)).bind fun t24003 => (if t24003 = true then (laws_eqBoxS.l0 k x0 x1 (wrap64 (x5 + 1))) else (some false))) else (none)) else (none)) else (some true)
def laws_eqBoxS.f (k : Nat) (l0 : List (S50)) (l1 : List (S50)) : Option (Bool) := if (l0.length : Int) = (l1.length : Int) then (laws_eqBoxS.l0 k l0 l1 0) else (some false)
theorem laws_eqBoxS.mono_l : ∀ k, (∀ y0 y1 y2, LeO (laws_eqBoxS.l0 k y0 y1 y2) (laws_eqBoxS.l0 (k + 1) y0 y1 y2))
  | 0 => fun _ _ _ r h => by simp [laws_eqBoxS.l0] at h
  | k + 1 => by
    have ih0 := laws_eqBoxS.mono_l k
    · intro y0 y1 y2
      unfold laws_eqBoxS.l0
      repeat' first
      | (with_reducible exact ih0 _ _ _)
      | (with_reducible exact LeO.refl _)
      | (with_reducible exact LeO.none _)
      | (with_reducible refine LeO.ite ?_ ?_)
      | (with_reducible refine LeO.bind ?_ (fun _ => ?_))
      | exact ih0 _ _ _
      | exact LeO.none _
      | refine LeO.ite ?_ ?_
      | refine LeO.bind ?_ (fun _ => ?_)
theorem laws_eqBoxS.mono : ∀ a0 a1 k, LeO (laws_eqBoxS.f k a0 a1) (laws_eqBoxS.f (k + 1) a0 a1) := by
  intro a0 a1 k
  have ih0 := laws_eqBoxS.mono_l k
  unfold laws_eqBoxS.f
  repeat' first
      | (with_reducible exact ih0 _ _ _)
      | (with_reducible exact LeO.refl _)
      | (with_reducible exact LeO.none _)
      | (with_reducible refine LeO.ite ?_ ?_)
      | (with_reducible refine LeO.bind ?_ (fun _ => ?_))
      | exact ih0 _ _ _
      | exact LeO.none _
      | refine LeO.ite ?_ ?_
      | refine LeO.bind ?_ (fun _ => ?_)
def laws_eqBoxS.T6 : Bool × List (List Nat × List Nat) := (true, [([], []), ([], []), ([0, 1], [0, 1]), ([2], [2]), ([], []), ([], []), ([4, 5], [4, 5]), ([6], [6]), ([3, 7], [3, 7]), ([8], [8])])
def laws_eqBoxS.B6 : List Nat := [0, 0, 3, 7, 0, 0, 48, 112, 255, 511]
theorem laws_eqBoxS.tab6 : rtab .any (opsOf Try.f23 6) = laws_eqBoxS.T6 := by kernel_rfl
theorem laws_eqBoxS.bits6 : waitsOk laws_eqBoxS.T6.2 laws_eqBoxS.B6 = true := by kernel_rfl
set_option maxHeartbeats 8000000 in
set_option maxRecDepth 100000 in
theorem laws_eqBoxS.calls (k : Nat) (A0 : Option Addr) (c0 : Nat) (l0 : List (S50)) (A1 : Option Addr) (c1 : Nat) (l1 : List (S50)) (r : Bool) (w : World) (hr0 : Kd.C k50 w A0 l0.length l0) (hc0 : l0.length ≤ c0) (hr1 : Kd.C k50 w A1 l1.length l1) (hc1 : l1.length ≤ c1) (h : laws_eqBoxS.f k l0 l1 = some r) :
    Calls Try.prog 23 #[.slice A0 l0.length c0, .slice A1 l1.length c1] w fun e w' => e = .returned (.bool r) ∧ Below w.heap.size w w' := by
  have hu50 := Try.underlying50
  have HR0 := Aside0.mk hr0
  have HC0 := Aside0.mk hc0
  clear hr0 hc0
  have HR1 := Aside0.mk hr1
  have HC1 := Aside0.mk hc1
  clear hr1 hc1
  have HB := Aside0.mk (Below.refl w.heap.size w)
  have H : (if (l0.length : Int) = (l1.length : Int) then (laws_eqBoxS.l0 k l0 l1 0) else (some false)) = some r := h
  clear h
  by_cases c3 : (l0.length : Int) = (l1.length : Int)
  · rw [if_pos c3] at H
    have c3b0 : ((l0.length : Int) == (l1.length : Int)) = true := beq_iff_eq.mpr c3
    have c3b1 : ((l0.length : Int) != (l1.length : Int)) = false := bne_eq_false_iff_eq.mpr c3
    have c3b2 : (l0.length == l1.length) = true := by first | simpa using c3 | (simp at c3 ⊢; omega)
    clear c3
    have H' := Aside0.mk H
    clear H
    go_enter Try.func23, Try.ntmps23
    go_wp2
    go_loopg [5] k (fun kq v5 w' => ∃ (x5_1 : Int), v5 = .int .i64 x5_1 ∧ Aside0 (laws_eqBoxS.l0 kq l0 l1 x5_1 = some r) ∧ Aside0 (kq ≤ k) ∧ Aside0 (Below w.heap.size w w'))
    case atStart => exact ⟨(0), (by first | rfl | (simp; done) | (simp [*]; done)), H', ⟨Nat.le_refl _⟩, ⟨by repeat (first | (with_reducible first | exact HB.out | apply below_alloc | apply pw_below_drewN | apply below_drew1) | exact HB.out)⟩⟩
    case round =>
      clear H'
      try clear c1
      try clear c2
      try clear p2
      try clear c3
      try clear c3b0
      try clear c3b1
      try clear c3b2
      obtain ⟨x5_1, rfl, HA, HK1, HB⟩ := hrel
      cases gk with
      | zero => exact absurd HA.out (by simp [laws_eqBoxS.l0])
      | succ k1 =>
        have H := HA.out
        clear HA
        simp only [laws_eqBoxS.l0] at H
        by_cases c4 : x5_1 < (l0.length : Int)
        · rw [if_pos c4] at H
          have c4b0 : decide (x5_1 < (l0.length : Int)) = true := decide_eq_true c4
          clear c4
          by_cases c5 : 0 ≤ x5_1
          · rw [if_pos c5] at H
            have c5b0 : decide (0 ≤ x5_1) = true := decide_eq_true c5
            clear c5
            by_cases c6 : x5_1 < (l1.length : Int)
            · rw [if_pos c6] at H
              have c6b0 : decide (x5_1 < (l1.length : Int)) = true := decide_eq_true c6
              clear c6
              replace H := Option.bind_eq_some_iff.mp H
              obtain ⟨t24003, A70, H⟩ := H
              replace H : (if t24003 = true then (laws_eqBoxS.l0 k1 l0 l1 (wrap64 (x5_1 + 1))) else (some false)) = some r := H
              have A7 := Aside0.mk A70
              clear A70
              by_cases c8 : t24003 = true
              · subst c8
                have H1 : (laws_eqBoxS.l0 k1 l0 l1 (wrap64 (x5_1 + 1))) = some r := by rw [if_pos rfl] at H; exact H
                clear H
                have H := H1
                clear H1
                have H' := Aside0.mk H
                clear H
                try go_wp2
                have n0_ := Aside0.mk (below_drew1 HB.out)
                clear HB
                have HB := n0_
                clear n0_
                have p24001 : 0 ≤ (x5_1 : Int) := of_decide_eq_true (by first | (with_reducible assumption) | assumption)
                have q24001 : x5_1 < (l0.length : Int) := of_decide_eq_true (by first | (with_reducible assumption) | assumption)
                obtain ⟨ad24001, e24001, hx24001_0, hx24001_1, hx24001_2, hx24001_3⟩ := at_T50 HR0.out x5_1 p24001 q24001
                have hw24001_3 := hx24001_3
                have hw24001_2 := hx24001_2
                have hw24001_1 := hx24001_1
                have hw24001_0 := hx24001_0
                cases e24001
                replace hx24001_0 := (HB.out.cell (World.block_lt_of_cell? w _ hx24001_0)).trans hx24001_0
                replace hx24001_1 := (HB.out.cell (World.block_lt_of_cell? w _ hx24001_1)).trans hx24001_1
                replace hx24001_2 := (HB.out.cell (World.block_lt_of_cell? w _ hx24001_2)).trans hx24001_2
                replace hx24001_3 := (HB.out.cell (World.block_lt_of_cell? w _ hx24001_3)).trans hx24001_3
                replace p24001 := eq_true p24001
                replace q24001 := eq_true q24001
                have p24002 : 0 ≤ (x5_1 : Int) := of_decide_eq_true (by first | (with_reducible assumption) | assumption)
                have q24002 : x5_1 < (l1.length : Int) := of_decide_eq_true (by first | (with_reducible assumption) | assumption)
                obtain ⟨ad24002, e24002, hx24002_0, hx24002_1, hx24002_2, hx24002_3⟩ := at_T50 HR1.out x5_1 p24002 q24002
                have hw24002_3 := hx24002_3
                have hw24002_2 := hx24002_2
                have hw24002_1 := hx24002_1
                have hw24002_0 := hx24002_0
                cases e24002
                replace hx24002_0 := (HB.out.cell (World.block_lt_of_cell? w _ hx24002_0)).trans hx24002_0
                replace hx24002_1 := (HB.out.cell (World.block_lt_of_cell? w _ hx24002_1)).trans hx24002_1
                replace hx24002_2 := (HB.out.cell (World.block_lt_of_cell? w _ hx24002_2)).trans hx24002_2
                replace hx24002_3 := (HB.out.cell (World.block_lt_of_cell? w _ hx24002_3)).trans hx24002_3
                replace p24002 := eq_true p24002
                replace q24002 := eq_true q24002
                refine start_ (n := 10) (S := fun w' => w'.cell? (ad24001.add ((x5_1).toNat * 4)) = some (.int .i64 ((rd_T50 l0 x5_1).f0)) ∧ w'.cell? ⟨(ad24001.add ((x5_1).toNat * 4)).block, (ad24001.add ((x5_1).toNat * 4)).off + 1, none⟩ = some (.int .i64 ((rd_T50 l0 x5_1).f1)) ∧ w'.cell? ⟨(ad24001.add ((x5_1).toNat * 4)).block, (ad24001.add ((x5_1).toNat * 4)).off + 2, none⟩ = some (.int .i64 ((rd_T50 l0 x5_1).f2)) ∧ w'.cell? ⟨(ad24001.add ((x5_1).toNat * 4)).block, (ad24001.add ((x5_1).toNat * 4)).off + 3, none⟩ = some (.int .i64 ((rd_T50 l0 x5_1).f3)) ∧ w'.cell? (ad24002.add ((x5_1).toNat * 4)) = some (.int .i64 ((rd_T50 l1 x5_1).f0)) ∧ w'.cell? ⟨(ad24002.add ((x5_1).toNat * 4)).block, (ad24002.add ((x5_1).toNat * 4)).off + 1, none⟩ = some (.int .i64 ((rd_T50 l1 x5_1).f1)) ∧ w'.cell? ⟨(ad24002.add ((x5_1).toNat * 4)).block, (ad24002.add ((x5_1).toNat * 4)).off + 2, none⟩ = some (.int .i64 ((rd_T50 l1 x5_1).f2)) ∧ w'.cell? ⟨(ad24002.add ((x5_1).toNat * 4)).block, (ad24002.add ((x5_1).toNat * 4)).off + 3, none⟩ = some (.int .i64 ((rd_T50 l1 x5_1).f3))) (ds := []) #[false, false, false, false, false, false, false, false, false, false] (by kernel_rfl) rfl rfl ⟨((HB.out.cell (World.block_lt_of_cell? w _ hw24001_0)).trans hw24001_0), ((HB.out.cell (World.block_lt_of_cell? w _ hw24001_1)).trans hw24001_1), ((HB.out.cell (World.block_lt_of_cell? w _ hw24001_2)).trans hw24001_2), ((HB.out.cell (World.block_lt_of_cell? w _ hw24001_3)).trans hw24001_3), ((HB.out.cell (World.block_lt_of_cell? w _ hw24002_0)).trans hw24002_0), ((HB.out.cell (World.block_lt_of_cell? w _ hw24002_1)).trans hw24002_1), ((HB.out.cell (World.block_lt_of_cell? w _ hw24002_2)).trans hw24002_2), ((HB.out.cell (World.block_lt_of_cell? w _ hw24002_3)).trans hw24002_3)⟩ (fun hHeld => ?_); refine with_tabW laws_eqBoxS.tab6 laws_eqBoxS.bits6 (fun HT_ HW_ => ?_)
                generalize wr.drew = w9 at HB hx24001_0 hx24001_1 hx24001_2 hx24001_3 hx24002_0 hx24002_1 hx24002_2 hx24002_3 hHeld ⊢
                refine pure_ (i := 0) (N := some 17) (v := ?_) (a' := ?_) #[true, false, false, false, false, false, false, false, false, false] rfl rfl (any_of HT_.out (by kernel_rfl)) (fun _ _ _ h => h) (Or.inl ⟨by rfl, ?_⟩) ?_ ?_
                rotate_left
                · intro w'
                  go_simp
                  with_reducible rfl
                rotate_left
                · simp only [Act.put, List.setIfInBounds_toArray, List.set_cons_zero, List.set_cons_succ, i64_w, i32_w]
                  rfl
                refine pure_ (i := 1) (N := some 18) (v := ?_) (a' := ?_) #[true, true, false, false, false, false, false, false, false, false] rfl rfl (any_of HT_.out (by kernel_rfl)) (fun _ _ _ h => h) (Or.inl ⟨by rfl, ?_⟩) ?_ ?_
                rotate_left
                · intro w'
                  go_simp
                  with_reducible rfl
                rotate_left
                · simp only [Act.put, List.setIfInBounds_toArray, List.set_cons_zero, List.set_cons_succ, i64_w, i32_w]
                  rfl
                refine pure_ (i := 2) (N := some 19) (v := ?_) (a' := ?_) #[true, true, true, false, false, false, false, false, false, false] rfl rfl (any_of HT_.out (by kernel_rfl)) (fun _ _ _ h => h) (Or.inl ⟨by rfl, ?_⟩) ?_ ?_
                rotate_left
                · intro w'
                  go_simp
                  with_reducible rfl
                rotate_left
                · simp only [Act.put, List.setIfInBounds_toArray, List.set_cons_zero, List.set_cons_succ, i64_w, i32_w]
                  rfl
                refine pure_ (i := 4) (N := some 21) (v := ?_) (a' := ?_) #[true, true, true, false, true, false, false, false, false, false] rfl rfl (any_of HT_.out (by kernel_rfl)) (fun _ _ _ h => h) (Or.inl ⟨by rfl, ?_⟩) ?_ ?_
                rotate_left
                · intro w'
                  go_simp
                  with_reducible rfl
                rotate_left
                · simp only [Act.put, List.setIfInBounds_toArray, List.set_cons_zero, List.set_cons_succ, i64_w, i32_w]
                  rfl
                refine pure_ (i := 5) (N := some 22) (v := ?_) (a' := ?_) #[true, true, true, false, true, true, false, false, false, false] rfl rfl (any_of HT_.out (by kernel_rfl)) (fun _ _ _ h => h) (Or.inl ⟨by rfl, ?_⟩) ?_ ?_
                rotate_left
                · intro w'
                  go_simp
                  with_reducible rfl
                rotate_left
                · simp only [Act.put, List.setIfInBounds_toArray, List.set_cons_zero, List.set_cons_succ, i64_w, i32_w]
                  rfl
                refine pure_ (i := 6) (N := some 23) (v := ?_) (a' := ?_) #[true, true, true, false, true, true, true, false, false, false] rfl rfl (any_of HT_.out (by kernel_rfl)) (fun _ _ _ h => h) (Or.inl ⟨by rfl, ?_⟩) ?_ ?_
                rotate_left
                · intro w'
                  go_simp
                  with_reducible rfl
                rotate_left
                · simp only [Act.put, List.setIfInBounds_toArray, List.set_cons_zero, List.set_cons_succ, i64_w, i32_w]
                  rfl
                refine take_ (i := 3) (N := some 20) (v := ?_) (a' := ?_) #[true, true, true, true, true, true, true, false, false, false] rfl rfl (take_ofW HT_.out HW_.out (by kernel_rfl)) (fun _ _ _ h => h) (Or.inl ⟨by rfl, ?_⟩) hHeld ?_ ?_
                rotate_left
                · rintro w' ⟨s0, s1, s2, s3, s4, s5, s6, s7⟩
                  go_simp
                  with_reducible rfl
                rotate_left
                · simp only [Act.put, List.setIfInBounds_toArray, List.set_cons_zero, List.set_cons_succ, i64_w, i32_w]
                  rfl
                refine take_ (i := 7) (N := some 24) (v := ?_) (a' := ?_) #[true, true, true, true, true, true, true, true, false, false] rfl rfl (take_ofW HT_.out HW_.out (by kernel_rfl)) (fun _ _ _ h => h) (Or.inl ⟨by rfl, ?_⟩) hHeld ?_ ?_
                rotate_left
                · rintro w' ⟨s0, s1, s2, s3, s4, s5, s6, s7⟩
                  go_simp
                  with_reducible rfl
                rotate_left
                · simp only [Act.put, List.setIfInBounds_toArray, List.set_cons_zero, List.set_cons_succ, i64_w, i32_w]
                  rfl
                refine one_ (i := 8) (N := some 25) #[true, true, true, true, true, true, true, true, true, false] rfl rfl (one_of HT_.out (by kernel_rfl)) (by decide) (fun K hK => ?_)
                refine goes_ Try.func54 (by kernel_rfl) rfl #[.agg #[.int .i64 ((rd_T50 l0 x5_1).f0), .int .i64 ((rd_T50 l0 x5_1).f1), .int .i64 ((rd_T50 l0 x5_1).f2), .int .i64 ((rd_T50 l0 x5_1).f3)], .agg #[.int .i64 ((rd_T50 l1 x5_1).f0), .int .i64 ((rd_T50 l1 x5_1).f1), .int .i64 ((rd_T50 l1 x5_1).f2), .int .i64 ((rd_T50 l1 x5_1).f3)]] (by rfl) rfl rfl (by (try simp only [List.map_toArray, List.map_cons, List.map_nil]); first | done | rfl | (simp only [List.length_drop, List.length_take]; rfl)) ?_
                with_reducible refine (laws_eqBox.calls ((rd_T50 l0 x5_1).f0) ((rd_T50 l0 x5_1).f1) ((rd_T50 l0 x5_1).f2) ((rd_T50 l0 x5_1).f3) ((rd_T50 l1 x5_1).f0) ((rd_T50 l1 x5_1).f1) ((rd_T50 l1 x5_1).f2) ((rd_T50 l1 x5_1).f3) true _ A7.out).mono ?_
                rintro e w10 ⟨rfl, hb⟩
                refine ⟨_, rfl, ?_⟩
                have n0_ := Aside0.mk (below_step (by repeat (first | (with_reducible first | exact HB.out | apply below_alloc | apply pw_below_drewN | apply below_drew1) | exact HB.out)) hb)
                clear HB
                have HB := n0_
                clear n0_
                (try clear hb)
                (try clear hb2)
                (try clear hk)
                (try clear hi)
                refine hK.out _ _ ⟨((HB.out.cell (World.block_lt_of_cell? w _ hw24001_0)).trans hw24001_0), ((HB.out.cell (World.block_lt_of_cell? w _ hw24001_1)).trans hw24001_1), ((HB.out.cell (World.block_lt_of_cell? w _ hw24001_2)).trans hw24001_2), ((HB.out.cell (World.block_lt_of_cell? w _ hw24001_3)).trans hw24001_3), ((HB.out.cell (World.block_lt_of_cell? w _ hw24002_0)).trans hw24002_0), ((HB.out.cell (World.block_lt_of_cell? w _ hw24002_1)).trans hw24002_1), ((HB.out.cell (World.block_lt_of_cell? w _ hw24002_2)).trans hw24002_2), ((HB.out.cell (World.block_lt_of_cell? w _ hw24002_3)).trans hw24002_3)⟩ (fun hHeld => ?_)
                clear hK K
                refine norm_ (a' := ?_) ?_ ?_
                rotate_left
                · show Act.put _ (some 25) _ = _
                  simp only [Act.put, List.setIfInBounds_toArray, List.set_cons_zero, List.set_cons_succ, i64_w, i32_w]
                  rfl
                refine pure_ (i := 9) (N := some 26) (v := ?_) (a' := ?_) #[true, true, true, true, true, true, true, true, true, true] rfl rfl (any_of HT_.out (by kernel_rfl)) (fun _ _ _ h => h) (Or.inl ⟨by rfl, ?_⟩) ?_ ?_
                rotate_left
                · intro w'
                  go_simp
                  with_reducible rfl
                rotate_left
                · simp only [Act.put, List.setIfInBounds_toArray, List.set_cons_zero, List.set_cons_succ, i64_w, i32_w]
                  rfl
                refine done_ (done_of HT_.out (by kernel_rfl)) ?_
                try go_wp2
                go_roundg k1
                case measure => have := HK1.out; omega
                case rel => exact ⟨(wrap64 (x5_1 + 1)), (by first | rfl | (simp; done) | (simp [*]; done)), H', ⟨by have := HK1.out; omega⟩, ⟨by repeat (first | (with_reducible first | exact HB.out | apply below_alloc | apply pw_below_drewN | apply below_drew1) | exact HB.out)⟩⟩
              · replace c8 := Bool.eq_false_iff.mpr c8
                subst c8
                have H1 : (some false) = some r := by rw [if_neg (show ¬ (false = true) by decide)] at H; exact H
                clear H
                have H := H1
                clear H1
                obtain rfl := Option.some.inj H
                try go_wp2
                have n0_ := Aside0.mk (below_drew1 HB.out)
                clear HB
                have HB := n0_
                clear n0_
                have p24001 : 0 ≤ (x5_1 : Int) := of_decide_eq_true (by first | (with_reducible assumption) | assumption)
                have q24001 : x5_1 < (l0.length : Int) := of_decide_eq_true (by first | (with_reducible assumption) | assumption)
                obtain ⟨ad24001, e24001, hx24001_0, hx24001_1, hx24001_2, hx24001_3⟩ := at_T50 HR0.out x5_1 p24001 q24001
                have hw24001_3 := hx24001_3
                have hw24001_2 := hx24001_2
                have hw24001_1 := hx24001_1
                have hw24001_0 := hx24001_0
                cases e24001
                replace hx24001_0 := (HB.out.cell (World.block_lt_of_cell? w _ hx24001_0)).trans hx24001_0
                replace hx24001_1 := (HB.out.cell (World.block_lt_of_cell? w _ hx24001_1)).trans hx24001_1
                replace hx24001_2 := (HB.out.cell (World.block_lt_of_cell? w _ hx24001_2)).trans hx24001_2
                replace hx24001_3 := (HB.out.cell (World.block_lt_of_cell? w _ hx24001_3)).trans hx24001_3
                replace p24001 := eq_true p24001
                replace q24001 := eq_true q24001
                have p24002 : 0 ≤ (x5_1 : Int) := of_decide_eq_true (by first | (with_reducible assumption) | assumption)
                have q24002 : x5_1 < (l1.length : Int) := of_decide_eq_true (by first | (with_reducible assumption) | assumption)
                obtain ⟨ad24002, e24002, hx24002_0, hx24002_1, hx24002_2, hx24002_3⟩ := at_T50 HR1.out x5_1 p24002 q24002
                have hw24002_3 := hx24002_3
                have hw24002_2 := hx24002_2
                have hw24002_1 := hx24002_1
                have hw24002_0 := hx24002_0
                cases e24002
                replace hx24002_0 := (HB.out.cell (World.block_lt_of_cell? w _ hx24002_0)).trans hx24002_0
                replace hx24002_1 := (HB.out.cell (World.block_lt_of_cell? w _ hx24002_1)).trans hx24002_1
                replace hx24002_2 := (HB.out.cell (World.block_lt_of_cell? w _ hx24002_2)).trans hx24002_2
                replace hx24002_3 := (HB.out.cell (World.block_lt_of_cell? w _ hx24002_3)).trans hx24002_3
                replace p24002 := eq_true p24002
                replace q24002 := eq_true q24002
                refine start_ (n := 10) (S := fun w' => w'.cell? (ad24001.add ((x5_1).toNat * 4)) = some (.int .i64 ((rd_T50 l0 x5_1).f0)) ∧ w'.cell? ⟨(ad24001.add ((x5_1).toNat * 4)).block, (ad24001.add ((x5_1).toNat * 4)).off + 1, none⟩ = some (.int .i64 ((rd_T50 l0 x5_1).f1)) ∧ w'.cell? ⟨(ad24001.add ((x5_1).toNat * 4)).block, (ad24001.add ((x5_1).toNat * 4)).off + 2, none⟩ = some (.int .i64 ((rd_T50 l0 x5_1).f2)) ∧ w'.cell? ⟨(ad24001.add ((x5_1).toNat * 4)).block, (ad24001.add ((x5_1).toNat * 4)).off + 3, none⟩ = some (.int .i64 ((rd_T50 l0 x5_1).f3)) ∧ w'.cell? (ad24002.add ((x5_1).toNat * 4)) = some (.int .i64 ((rd_T50 l1 x5_1).f0)) ∧ w'.cell? ⟨(ad24002.add ((x5_1).toNat * 4)).block, (ad24002.add ((x5_1).toNat * 4)).off + 1, none⟩ = some (.int .i64 ((rd_T50 l1 x5_1).f1)) ∧ w'.cell? ⟨(ad24002.add ((x5_1).toNat * 4)).block, (ad24002.add ((x5_1).toNat * 4)).off + 2, none⟩ = some (.int .i64 ((rd_T50 l1 x5_1).f2)) ∧ w'.cell? ⟨(ad24002.add ((x5_1).toNat * 4)).block, (ad24002.add ((x5_1).toNat * 4)).off + 3, none⟩ = some (.int .i64 ((rd_T50 l1 x5_1).f3))) (ds := []) #[false, false, false, false, false, false, false, false, false, false] (by kernel_rfl) rfl rfl ⟨((HB.out.cell (World.block_lt_of_cell? w _ hw24001_0)).trans hw24001_0), ((HB.out.cell (World.block_lt_of_cell? w _ hw24001_1)).trans hw24001_1), ((HB.out.cell (World.block_lt_of_cell? w _ hw24001_2)).trans hw24001_2), ((HB.out.cell (World.block_lt_of_cell? w _ hw24001_3)).trans hw24001_3), ((HB.out.cell (World.block_lt_of_cell? w _ hw24002_0)).trans hw24002_0), ((HB.out.cell (World.block_lt_of_cell? w _ hw24002_1)).trans hw24002_1), ((HB.out.cell (World.block_lt_of_cell? w _ hw24002_2)).trans hw24002_2), ((HB.out.cell (World.block_lt_of_cell? w _ hw24002_3)).trans hw24002_3)⟩ (fun hHeld => ?_); refine with_tabW laws_eqBoxS.tab6 laws_eqBoxS.bits6 (fun HT_ HW_ => ?_)
                generalize wr.drew = w11 at HB hx24001_0 hx24001_1 hx24001_2 hx24001_3 hx24002_0 hx24002_1 hx24002_2 hx24002_3 hHeld ⊢
                refine pure_ (i := 0) (N := some 17) (v := ?_) (a' := ?_) #[true, false, false, false, false, false, false, false, false, false] rfl rfl (any_of HT_.out (by kernel_rfl)) (fun _ _ _ h => h) (Or.inl ⟨by rfl, ?_⟩) ?_ ?_
                rotate_left
                · intro w'
                  go_simp
                  with_reducible rfl
                rotate_left
                · simp only [Act.put, List.setIfInBounds_toArray, List.set_cons_zero, List.set_cons_succ, i64_w, i32_w]
                  rfl
                refine pure_ (i := 1) (N := some 18) (v := ?_) (a' := ?_) #[true, true, false, false, false, false, false, false, false, false] rfl rfl (any_of HT_.out (by kernel_rfl)) (fun _ _ _ h => h) (Or.inl ⟨by rfl, ?_⟩) ?_ ?_
                rotate_left
                · intro w'
                  go_simp
                  with_reducible rfl
                rotate_left
                · simp only [Act.put, List.setIfInBounds_toArray, List.set_cons_zero, List.set_cons_succ, i64_w, i32_w]
                  rfl
                refine pure_ (i := 2) (N := some 19) (v := ?_) (a' := ?_) #[true, true, true, false, false, false, false, false, false, false] rfl rfl (any_of HT_.out (by kernel_rfl)) (fun _ _ _ h => h) (Or.inl ⟨by rfl, ?_⟩) ?_ ?_
                rotate_left
                · intro w'
                  go_simp
                  with_reducible rfl
                rotate_left
                · simp only [Act.put, List.setIfInBounds_toArray, List.set_cons_zero, List.set_cons_succ, i64_w, i32_w]
                  rfl
                refine pure_ (i := 4) (N := some 21) (v := ?_) (a' := ?_) #[true, true, true, false, true, false, false, false, false, false] rfl rfl (any_of HT_.out (by kernel_rfl)) (fun _ _ _ h => h) (Or.inl ⟨by rfl, ?_⟩) ?_ ?_
                rotate_left
                · intro w'
                  go_simp
                  with_reducible rfl
                rotate_left
                · simp only [Act.put, List.setIfInBounds_toArray, List.set_cons_zero, List.set_cons_succ, i64_w, i32_w]
                  rfl
                refine pure_ (i := 5) (N := some 22) (v := ?_) (a' := ?_) #[true, true, true, false, true, true, false, false, false, false] rfl rfl (any_of HT_.out (by kernel_rfl)) (fun _ _ _ h => h) (Or.inl ⟨by rfl, ?_⟩) ?_ ?_
                rotate_left
                · intro w'
                  go_simp
                  with_reducible rfl
                rotate_left
                · simp only [Act.put, List.setIfInBounds_toArray, List.set_cons_zero, List.set_cons_succ, i64_w, i32_w]
                  rfl
                refine pure_ (i := 6) (N := some 23) (v := ?_) (a' := ?_) #[true, true, true, false, true, true, true, false, false, false] rfl rfl (any_of HT_.out (by kernel_rfl)) (fun _ _ _ h => h) (Or.inl ⟨by rfl, ?_⟩) ?_ ?_
                rotate_left
                · intro w'
                  go_simp
                  with_reducible rfl
                rotate_left
                · simp only [Act.put, List.setIfInBounds_toArray, List.set_cons_zero, List.set_cons_succ, i64_w, i32_w]
                  rfl
                refine take_ (i := 3) (N := some 20) (v := ?_) (a' := ?_) #[true, true, true, true, true, true, true, false, false, false] rfl rfl (take_ofW HT_.out HW_.out (by kernel_rfl)) (fun _ _ _ h => h) (Or.inl ⟨by rfl, ?_⟩) hHeld ?_ ?_
                rotate_left
                · rintro w' ⟨s0, s1, s2, s3, s4, s5, s6, s7⟩
                  go_simp
                  with_reducible rfl
                rotate_left
                · simp only [Act.put, List.setIfInBounds_toArray, List.set_cons_zero, List.set_cons_succ, i64_w, i32_w]
                  rfl
                refine take_ (i := 7) (N := some 24) (v := ?_) (a' := ?_) #[true, true, true, true, true, true, true, true, false, false] rfl rfl (take_ofW HT_.out HW_.out (by kernel_rfl)) (fun _ _ _ h => h) (Or.inl ⟨by rfl, ?_⟩) hHeld ?_ ?_
                rotate_left
                · rintro w' ⟨s0, s1, s2, s3, s4, s5, s6, s7⟩
                  go_simp
                  with_reducible rfl
                rotate_left
                · simp only [Act.put, List.setIfInBounds_toArray, List.set_cons_zero, List.set_cons_succ, i64_w, i32_w]
                  rfl
                refine one_ (i := 8) (N := some 25) #[true, true, true, true, true, true, true, true, true, false] rfl rfl (one_of HT_.out (by kernel_rfl)) (by decide) (fun K hK => ?_)
                refine goes_ Try.func54 (by kernel_rfl) rfl #[.agg #[.int .i64 ((rd_T50 l0 x5_1).f0), .int .i64 ((rd_T50 l0 x5_1).f1), .int .i64 ((rd_T50 l0 x5_1).f2), .int .i64 ((rd_T50 l0 x5_1).f3)], .agg #[.int .i64 ((rd_T50 l1 x5_1).f0), .int .i64 ((rd_T50 l1 x5_1).f1), .int .i64 ((rd_T50 l1 x5_1).f2), .int .i64 ((rd_T50 l1 x5_1).f3)]] (by rfl) rfl rfl (by (try simp only [List.map_toArray, List.map_cons, List.map_nil]); first | done | rfl | (simp only [List.length_drop, List.length_take]; rfl)) ?_
                with_reducible refine (laws_eqBox.calls ((rd_T50 l0 x5_1).f0) ((rd_T50 l0 x5_1).f1) ((rd_T50 l0 x5_1).f2) ((rd_T50 l0 x5_1).f3) ((rd_T50 l1 x5_1).f0) ((rd_T50 l1 x5_1).f1) ((rd_T50 l1 x5_1).f2) ((rd_T50 l1 x5_1).f3) false _ A7.out).mono ?_
                rintro e w12 ⟨rfl, hb⟩
                refine ⟨_, rfl, ?_⟩
                have n0_ := Aside0.mk (below_step (by repeat (first | (with_reducible first | exact HB.out | apply below_alloc | apply pw_below_drewN | apply below_drew1) | exact HB.out)) hb)
                clear HB
                have HB := n0_
                clear n0_
                (try clear hb)
                (try clear hb2)
                (try clear hk)
                (try clear hi)
                refine hK.out _ _ ⟨((HB.out.cell (World.block_lt_of_cell? w _ hw24001_0)).trans hw24001_0), ((HB.out.cell (World.block_lt_of_cell? w _ hw24001_1)).trans hw24001_1), ((HB.out.cell (World.block_lt_of_cell? w _ hw24001_2)).trans hw24001_2), ((HB.out.cell (World.block_lt_of_cell? w _ hw24001_3)).trans hw24001_3), ((HB.out.cell (World.block_lt_of_cell? w _ hw24002_0)).trans hw24002_0), ((HB.out.cell (World.block_lt_of_cell? w _ hw24002_1)).trans hw24002_1), ((HB.out.cell (World.block_lt_of_cell? w _ hw24002_2)).trans hw24002_2), ((HB.out.cell (World.block_lt_of_cell? w _ hw24002_3)).trans hw24002_3)⟩ (fun hHeld => ?_)
                clear hK K
                refine norm_ (a' := ?_) ?_ ?_
                rotate_left
                · show Act.put _ (some 25) _ = _
                  simp only [Act.put, List.setIfInBounds_toArray, List.set_cons_zero, List.set_cons_succ, i64_w, i32_w]
                  rfl
                refine pure_ (i := 9) (N := some 26) (v := ?_) (a' := ?_) #[true, true, true, true, true, true, true, true, true, true] rfl rfl (any_of HT_.out (by kernel_rfl)) (fun _ _ _ h => h) (Or.inl ⟨by rfl, ?_⟩) ?_ ?_
                rotate_left
                · intro w'
                  go_simp
                  with_reducible rfl
                rotate_left
                · simp only [Act.put, List.setIfInBounds_toArray, List.set_cons_zero, List.set_cons_succ, i64_w, i32_w]
                  rfl
                refine done_ (done_of HT_.out (by kernel_rfl)) ?_
                try go_wp2
                go_ret
                exact ⟨by first | rfl | (simp [errW_none, errW_some] <;> rfl) | (simp [*, errW_none, errW_some] <;> rfl), by repeat (first | (with_reducible first | exact HB.out | apply below_alloc | apply pw_below_drewN | apply below_drew1) | exact HB.out)⟩
            · rw [if_neg c6] at H
              exact absurd H (by simp)
          · rw [if_neg c5] at H
            exact absurd H (by simp)
        · rw [if_neg c4] at H
          have c4b0 : decide (x5_1 < (l0.length : Int)) = false := decide_eq_false c4
          clear c4
          obtain rfl := Option.some.inj H
          go_wp2
          go_ret
          exact ⟨by first | rfl | (simp [errW_none, errW_some] <;> rfl) | (simp [*, errW_none, errW_some] <;> rfl), by repeat (first | (with_reducible first | exact HB.out | apply below_alloc | apply pw_below_drewN | apply below_drew1) | exact HB.out)⟩
  · rw [if_neg c3] at H
    have c3b0 : ((l0.length : Int) == (l1.length : Int)) = false := beq_eq_false_iff_ne.mpr c3
    have c3b1 : ((l0.length : Int) != (l1.length : Int)) = true := bne_iff_ne.mpr c3
    have c3b2 : (l0.length == l1.length) = false := by first | simpa using c3 | (simp at c3 ⊢; omega)
    obtain rfl := Option.some.inj H
    go_enter Try.func23, Try.ntmps23
    go_wp2
    go_ret
    exact ⟨by first | rfl | (simp [errW_none, errW_some] <;> rfl) | (simp [*, errW_none, errW_some] <;> rfl), by repeat (first | (with_reducible first | exact HB.out | apply below_alloc | apply pw_below_drewN | apply below_drew1) | exact HB.out)⟩

end Go.Proofs.Ytgfjccegehnjcaa.Q

namespace Go.Proofs.Ytgfjccegehnjcaa.Q
open Go.RowKit Go.Proofs.YtgfjccegehnjcaaW.PrintWords Go.Proofs.YtgfjccegehnjcaaW.PrintLast Go.Proofs.YtgfjccegehnjcaaW.PrintMore
attribute [local go_sem] max2_int min2_int max_two min_two max_three min_three max_four min_four
set_option linter.unusedVariables false
set_option linter.unusedSimpArgs false
/-! ### laws_FnExactValidPacking: function 4 -/
def laws_FnExactValidPacking.f (k : Nat) (l0 : List (S71)) (a1 : Int) (a2 : Int) : Option (Bool) := (laws_szBoxS.f l0 1048576).bind fun t5001 => (if t5001 < 0 then (some true) else ((laws_toBoxS.f k l0).bind fun t5002 => ((spec_ValidPacking.f k t5002 a1 a2).bind fun t5005 => ((laws_toBoxS.f k l0).bind fun t5006 => ((impl_ValidPacking.f k t5006 a1 a2).bind fun t5009 => (if (t5009 != t5005) = true then (some false) else ((laws_toBoxS.f k l0).bind fun t5010 => ((laws_eqBoxS.f k t5006 t5010).bind fun t5013 => (if t5013 = true then (some true) else (some false))))))))))
theorem laws_FnExactValidPacking.mono : ∀ a0 a1 a2 k, LeO (laws_FnExactValidPacking.f k a0 a1 a2) (laws_FnExactValidPacking.f (k + 1) a0 a1 a2) := by
  intro a0 a1 a2 k
  unfold laws_FnExactValidPacking.f
  repeat' first
      | (with_reducible exact impl_ValidPacking.mono _ _ _ _)
      | (with_reducible exact laws_eqBoxS.mono _ _ _)
      | (with_reducible exact laws_toBoxS.mono _ _)
      | (with_reducible exact spec_ValidPacking.mono _ _ _ _)
      | (with_reducible exact LeO.refl _)
      | (with_reducible exact LeO.none _)
      | (with_reducible refine LeO.ite ?_ ?_)
      | (with_reducible refine LeO.bind ?_ (fun _ => ?_))
      | exact impl_ValidPacking.mono _ _ _ _
      | exact laws_eqBoxS.mono _ _ _
      | exact laws_toBoxS.mono _ _
      | exact spec_ValidPacking.mono _ _ _ _
      | exact LeO.none _
      | refine LeO.ite ?_ ?_
      | refine LeO.bind ?_ (fun _ => ?_)
set_option maxHeartbeats 8000000 in
set_option maxRecDepth 100000 in
theorem laws_FnExactValidPacking.calls (k : Nat) (A0 : Option Addr) (c0 : Nat) (l0 : List (S71)) (a1 : Int) (a2 : Int) (r : Bool) (w : World) (hr0 : Kd.C k71 w A0 l0.length l0) (hc0 : l0.length ≤ c0) (h : laws_FnExactValidPacking.f k l0 a1 a2 = some r) :
    Calls Try.prog 4 #[.slice A0 l0.length c0, .int .i64 a1, .int .i64 a2] w fun e w' => e = .returned (.bool r) ∧ Below w.heap.size w w' := by
  have HR0 := Aside0.mk hr0
  have HC0 := Aside0.mk hc0
  clear hr0 hc0
  have HB := Aside0.mk (Below.refl w.heap.size w)
  have H : ((laws_szBoxS.f l0 1048576).bind fun t5001 => (if t5001 < 0 then (some true) else ((laws_toBoxS.f k l0).bind fun t5002 => ((spec_ValidPacking.f k t5002 a1 a2).bind fun t5005 => ((laws_toBoxS.f k l0).bind fun t5006 => ((impl_ValidPacking.f k t5006 a1 a2).bind fun t5009 => (if (t5009 != t5005) = true then (some false) else ((laws_toBoxS.f k l0).bind fun t5010 => ((laws_eqBoxS.f k t5006 t5010).bind fun t5013 => (if t5013 = true then (some true) else (some false))))))))))) = some r := h
  clear h
  replace H := Option.bind_eq_some_iff.mp H
  obtain ⟨t5001, A40, H⟩ := H
  replace H : (if t5001 < 0 then (some true) else ((laws_toBoxS.f k l0).bind fun t5002 => ((spec_ValidPacking.f k t5002 a1 a2).bind fun t5005 => ((laws_toBoxS.f k l0).bind fun t5006 => ((impl_ValidPacking.f k t5006 a1 a2).bind fun t5009 => (if (t5009 != t5005) = true then (some false) else ((laws_toBoxS.f k l0).bind fun t5010 => ((laws_eqBoxS.f k t5006 t5010).bind fun t5013 => (if t5013 = true then (some true) else (some false)))))))))) = some r := H
  have A4 := Aside0.mk A40
  clear A40
  by_cases c5 : t5001 < 0
  · rw [if_pos c5] at H
    have c5b0 : decide (t5001 < 0) = true := decide_eq_true c5
    clear c5
    obtain rfl := Option.some.inj H
    go_enter Try.func4, Try.ntmps4
    go_wp2_with (first | ((with_reducible refine gate_callee (f := 19) rfl ?_); refine goesL_ (some 13) rfl rfl Try.func19 (by kernel_rfl) rfl #[.slice A0 l0.length c0, .int .i64 1048576] rfl (by (try simp only [List.map_toArray, List.map_cons, List.map_nil]); first | done | rfl | (simp only [List.length_drop, List.length_take]; rfl)) ?_; (with_reducible refine (laws_szBoxS.calls _ _ l0 1048576 t5001 _ ?side1 ?side2 A4.out).mono ?_); (case side1 => repeat (first | exact HR0.out | (with_reducible refine Kd.C_alloc ?_ _) | (with_reducible refine Kd.C_drewN ?_ _) | (with_reducible refine Kd.C_drew ?_))); (case side2 => exact HC0.out); rintro e w' ⟨rfl, ⟨nd, rfl⟩⟩; refine ⟨_, rfl, ?_⟩))
    go_ret
    exact ⟨by first | rfl | (simp [errW_none, errW_some] <;> rfl) | (simp [*, errW_none, errW_some] <;> rfl), by repeat (first | (with_reducible first | exact HB.out | apply below_alloc | apply pw_below_drewN | apply below_drew1) | exact HB.out)⟩
  · rw [if_neg c5] at H
    have c5b0 : decide (t5001 < 0) = false := decide_eq_false c5
    clear c5
    replace H := Option.bind_eq_some_iff.mp H
    obtain ⟨t5002, A60, H⟩ := H
    replace H : ((spec_ValidPacking.f k t5002 a1 a2).bind fun t5005 => ((laws_toBoxS.f k l0).bind fun t5006 => ((impl_ValidPacking.f k t5006 a1 a2).bind fun t5009 => (if (t5009 != t5005) = true then (some false) else ((laws_toBoxS.f k l0).bind fun t5010 => ((laws_eqBoxS.f k t5006 t5010).bind fun t5013 => (if t5013 = true then (some true) else (some false)))))))) = some r := H
    have A6 := Aside0.mk A60
    clear A60
    replace H := Option.bind_eq_some_iff.mp H
    obtain ⟨t5005, A70, H⟩ := H
    replace H : ((laws_toBoxS.f k l0).bind fun t5006 => ((impl_ValidPacking.f k t5006 a1 a2).bind fun t5009 => (if (t5009 != t5005) = true then (some false) else ((laws_toBoxS.f k l0).bind fun t5010 => ((laws_eqBoxS.f k t5006 t5010).bind fun t5013 => (if t5013 = true then (some true) else (some false))))))) = some r := H
    have A7 := Aside0.mk A70
    clear A70
    replace H := Option.bind_eq_some_iff.mp H
    obtain ⟨t5006, A80, H⟩ := H
    replace H : ((impl_ValidPacking.f k t5006 a1 a2).bind fun t5009 => (if (t5009 != t5005) = true then (some false) else ((laws_toBoxS.f k l0).bind fun t5010 => ((laws_eqBoxS.f k t5006 t5010).bind fun t5013 => (if t5013 = true then (some true) else (some false)))))) = some r := H
    have A8 := Aside0.mk A80
    clear A80
    replace H := Option.bind_eq_some_iff.mp H
    obtain ⟨t5009, A90, H⟩ := H
    replace H : (if (t5009 != t5005) = true then (some false) else ((laws_toBoxS.f k l0).bind fun t5010 => ((laws_eqBoxS.f k t5006 t5010).bind fun t5013 => (if t5013 = true then (some true) else (some false))))) = some r := H
    have A9 := Aside0.mk A90
    clear A90
    by_cases c10 : (t5009 != t5005) = true
    · rw [if_pos c10] at H
      have c10b0 : (t5009 != t5005) = true := c10
      (try (have c10b1 : decide (t5009 = t5005) = false := by simpa using c10))
      (try (have c10b2 : (t5009 == t5005) = false := by simpa using c10))
      (try (have c10b3 : ¬ (t5009 = t5005) := by simpa using c10))
      clear c10
      obtain rfl := Option.some.inj H
      go_enter Try.func4, Try.ntmps4
      go_wp2_with (first | ((with_reducible refine gate_callee (f := 19) rfl ?_); refine goesL_ (some 13) rfl rfl Try.func19 (by kernel_rfl) rfl #[.slice A0 l0.length c0, .int .i64 1048576] rfl (by (try simp only [List.map_toArray, List.map_cons, List.map_nil]); first | done | rfl | (simp only [List.length_drop, List.length_take]; rfl)) ?_; (with_reducible refine (laws_szBoxS.calls _ _ l0 1048576 t5001 _ ?side1 ?side2 A4.out).mono ?_); (case side1 => repeat (first | exact HR0.out | (with_reducible refine Kd.C_alloc ?_ _) | (with_reducible refine Kd.C_drewN ?_ _) | (with_reducible refine Kd.C_drew ?_))); (case side2 => exact HC0.out); rintro e w' ⟨rfl, ⟨nd, rfl⟩⟩; refine ⟨_, rfl, ?_⟩) | ((with_reducible refine gate_callee (f := 21) rfl ?_); refine goesL_ (some 17) rfl rfl Try.func21 (by kernel_rfl) rfl #[.slice A0 l0.length c0] rfl (by (try simp only [List.map_toArray, List.map_cons, List.map_nil]); first | done | rfl | (simp only [List.length_drop, List.length_take]; rfl)) ?_; (with_reducible refine (laws_toBoxS.calls k _ _ l0 t5002 _ ?side1 ?side2 A6.out).mono ?_); (case side1 => repeat (first | exact HR0.out | (with_reducible refine Kd.C_alloc ?_ _) | (with_reducible refine Kd.C_drewN ?_ _) | (with_reducible refine Kd.C_drew ?_))); (case side2 => exact HC0.out); rintro e w11 ⟨v5003, rfl, ho0, hb⟩; refine ⟨_, rfl, ?_⟩; have n0_ := Aside0.mk (Kd.R_lower ho0 (below_size (by repeat (first | (with_reducible first | exact HB.out | apply below_alloc | apply pw_below_drewN | apply below_drew1) | exact HB.out)))); have n1_ := Aside0.mk (below_step (by repeat (first | (with_reducible first | exact HB.out | apply below_alloc | apply pw_below_drewN | apply below_drew1) | exact HB.out)) hb); clear HB; have HO5004 := n0_; have HB := n1_; clear n0_ n1_; (try clear hb); (try clear hb2); (try clear hk); (try clear hi); (try clear ho0); obtain ⟨Ao12, co12, eo12⟩ := Kd.R_slice HO5004.out; subst eo12) | ((with_reducible refine gate_callee (f := 20) rfl ?_); refine goesL_ (some 20) rfl rfl Try.func20 (by kernel_rfl) rfl #[.slice Ao12 t5002.length co12, .int .i64 a1, .int .i64 a2] rfl (by (try simp only [List.map_toArray, List.map_cons, List.map_nil]); first | done | rfl | (simp only [List.length_drop, List.length_take]; rfl)) ?_; (with_reducible refine (spec_ValidPacking.calls k _ _ t5002 a1 a2 t5005 _ ?side1 ?side2 A7.out).mono ?_); (case side1 => repeat (first | exact (Kd.R_reads' HO5004.out).2.2 | (with_reducible refine Kd.C_alloc ?_ _) | (with_reducible refine Kd.C_drewN ?_ _) | (with_reducible refine Kd.C_drew ?_))); (case side2 => exact (Kd.R_reads' HO5004.out).2.1); rintro e w13 ⟨rfl, hb⟩; refine ⟨_, rfl, ?_⟩; have n0_ := Aside0.mk (Kd.R_below (by (with_reducible repeat (first | apply Kd.R_alloc | apply Kd.R_drewN | apply Kd.R_drew)); exact HO5004.out) hb); have n1_ := Aside0.mk (below_step (by repeat (first | (with_reducible first | exact HB.out | apply below_alloc | apply pw_below_drewN | apply below_drew1) | exact HB.out)) hb); clear HO5004; clear HB; have HO5004 := n0_; have HB := n1_; clear n0_ n1_; (try clear hb); (try clear hb2); (try clear hk); (try clear hi)) | ((with_reducible refine gate_callee (f := 21) rfl ?_); refine goesL_ (some 22) rfl rfl Try.func21 (by kernel_rfl) rfl #[.slice A0 l0.length c0] rfl (by (try simp only [List.map_toArray, List.map_cons, List.map_nil]); first | done | rfl | (simp only [List.length_drop, List.length_take]; rfl)) ?_; (with_reducible refine (laws_toBoxS.calls k _ _ l0 t5006 _ ?side1 ?side2 A8.out).mono ?_); (case side1 => repeat (first | exact (Kd.C_below HR0.out HB.out) | (with_reducible refine Kd.C_alloc ?_ _) | (with_reducible refine Kd.C_drewN ?_ _) | (with_reducible refine Kd.C_drew ?_))); (case side2 => exact HC0.out); rintro e w14 ⟨v5007, rfl, ho0, hb⟩; refine ⟨_, rfl, ?_⟩; have n0_ := Aside0.mk (Kd.R_elder' (by (with_reducible repeat (first | apply Kd.R_alloc | apply Kd.R_drewN | apply Kd.R_drew)); exact HO5004.out) (Kd.R_base ho0) hb); have n1_ := Aside0.mk (Kd.R_lower (Kd.R_new' ho0 (Kd.R_lt (by (with_reducible repeat (first | apply Kd.R_alloc | apply Kd.R_drewN | apply Kd.R_drew)); exact HO5004.out))) (below_size (by repeat (first | (with_reducible first | exact HB.out | apply below_alloc | apply pw_below_drewN | apply below_drew1) | exact HB.out)))); have n2_ := Aside0.mk (below_step (by repeat (first | (with_reducible first | exact HB.out | apply below_alloc | apply pw_below_drewN | apply below_drew1) | exact HB.out)) hb); clear HO5004; clear HB; have HO5004 := n0_; have HO5008 := n1_; have HB := n2_; clear n0_ n1_ n2_; (try clear hb); (try clear hb2); (try clear hk); (try clear hi); (try clear ho0); obtain ⟨Ao15, co15, eo15⟩ := Kd.R_slice HO5008.out; subst eo15) | ((with_reducible refine gate_callee (f := 22) rfl ?_); refine goesL_ (some 26) rfl rfl Try.func22 (by kernel_rfl) rfl #[.slice Ao15 t5006.length co15, .int .i64 a1, .int .i64 a2] rfl (by (try simp only [List.map_toArray, List.map_cons, List.map_nil]); first | done | rfl | (simp only [List.length_drop, List.length_take]; rfl)) ?_; (with_reducible refine (impl_ValidPacking.calls k _ _ t5006 a1 a2 t5009 _ ?side1 ?side2 A9.out).mono ?_); (case side1 => repeat (first | exact (Kd.R_reads' HO5008.out).2.2 | (with_reducible refine Kd.C_alloc ?_ _) | (with_reducible refine Kd.C_drewN ?_ _) | (with_reducible refine Kd.C_drew ?_))); (case side2 => exact (Kd.R_reads' HO5008.out).2.1); rintro e w16 ⟨rfl, hb⟩; refine ⟨_, rfl, ?_⟩; have n0_ := Aside0.mk (Kd.R_below (by (with_reducible repeat (first | apply Kd.R_alloc | apply Kd.R_drewN | apply Kd.R_drew)); exact HO5004.out) hb); have n1_ := Aside0.mk (Kd.R_below (by (with_reducible repeat (first | apply Kd.R_alloc | apply Kd.R_drewN | apply Kd.R_drew)); exact HO5008.out) hb); have n2_ := Aside0.mk (below_step (by repeat (first | (with_reducible first | exact HB.out | apply below_alloc | apply pw_below_drewN | apply below_drew1) | exact HB.out)) hb); clear HO5004; clear HO5008; clear HB; have HO5004 := n0_; have HO5008 := n1_; have HB := n2_; clear n0_ n1_ n2_; (try clear hb); (try clear hb2); (try clear hk); (try clear hi)))
      go_ret
      exact ⟨by first | rfl | (simp [errW_none, errW_some] <;> rfl) | (simp [*, errW_none, errW_some] <;> rfl), by repeat (first | (with_reducible first | exact HB.out | apply below_alloc | apply pw_below_drewN | apply below_drew1) | exact HB.out)⟩
    · rw [if_neg c10] at H
      have c10b0 : (t5009 != t5005) = false := by simpa using c10
      (try (have c10b1 : decide (t5009 = t5005) = true := by simpa using c10))
      (try (have c10b2 : (t5009 == t5005) = true := by simpa using c10))
      clear c10
      replace H := Option.bind_eq_some_iff.mp H
      obtain ⟨t5010, A170, H⟩ := H
      replace H : ((laws_eqBoxS.f k t5006 t5010).bind fun t5013 => (if t5013 = true then (some true) else (some false))) = some r := H
      have A17 := Aside0.mk A170
      clear A170
      replace H := Option.bind_eq_some_iff.mp H
      obtain ⟨t5013, A180, H⟩ := H
      replace H : (if t5013 = true then (some true) else (some false)) = some r := H
      have A18 := Aside0.mk A180
      clear A180
      by_cases c19 : t5013 = true
      · subst c19
        have H1 : (some true) = some r := by rw [if_pos rfl] at H; exact H
        clear H
        have H := H1
        clear H1
        obtain rfl := Option.some.inj H
        go_enter Try.func4, Try.ntmps4
        go_wp2_with (first | ((with_reducible refine gate_callee (f := 19) rfl ?_); refine goesL_ (some 13) rfl rfl Try.func19 (by kernel_rfl) rfl #[.slice A0 l0.length c0, .int .i64 1048576] rfl (by (try simp only [List.map_toArray, List.map_cons, List.map_nil]); first | done | rfl | (simp only [List.length_drop, List.length_take]; rfl)) ?_; (with_reducible refine (laws_szBoxS.calls _ _ l0 1048576 t5001 _ ?side1 ?side2 A4.out).mono ?_); (case side1 => repeat (first | exact HR0.out | (with_reducible refine Kd.C_alloc ?_ _) | (with_reducible refine Kd.C_drewN ?_ _) | (with_reducible refine Kd.C_drew ?_))); (case side2 => exact HC0.out); rintro e w' ⟨rfl, ⟨nd, rfl⟩⟩; refine ⟨_, rfl, ?_⟩) | ((with_reducible refine gate_callee (f := 21) rfl ?_); refine goesL_ (some 17) rfl rfl Try.func21 (by kernel_rfl) rfl #[.slice A0 l0.length c0] rfl (by (try simp only [List.map_toArray, List.map_cons, List.map_nil]); first | done | rfl | (simp only [List.length_drop, List.length_take]; rfl)) ?_; (with_reducible refine (laws_toBoxS.calls k _ _ l0 t5002 _ ?side1 ?side2 A6.out).mono ?_); (case side1 => repeat (first | exact HR0.out | (with_reducible refine Kd.C_alloc ?_ _) | (with_reducible refine Kd.C_drewN ?_ _) | (with_reducible refine Kd.C_drew ?_))); (case side2 => exact HC0.out); rintro e w20 ⟨v5003, rfl, ho0, hb⟩; refine ⟨_, rfl, ?_⟩; have n0_ := Aside0.mk (Kd.R_lower ho0 (below_size (by repeat (first | (with_reducible first | exact HB.out | apply below_alloc | apply pw_below_drewN | apply below_drew1) | exact HB.out)))); have n1_ := Aside0.mk (below_step (by repeat (first | (with_reducible first | exact HB.out | apply below_alloc | apply pw_below_drewN | apply below_drew1) | exact HB.out)) hb); clear HB; have HO5004 := n0_; have HB := n1_; clear n0_ n1_; (try clear hb); (try clear hb2); (try clear hk); (try clear hi); (try clear ho0); obtain ⟨Ao21, co21, eo21⟩ := Kd.R_slice HO5004.out; subst eo21) | ((with_reducible refine gate_callee (f := 20) rfl ?_); refine goesL_ (some 20) rfl rfl Try.func20 (by kernel_rfl) rfl #[.slice Ao21 t5002.length co21, .int .i64 a1, .int .i64 a2] rfl (by (try simp only [List.map_toArray, List.map_cons, List.map_nil]); first | done | rfl | (simp only [List.length_drop, List.length_take]; rfl)) ?_; (with_reducible refine (spec_ValidPacking.calls k _ _ t5002 a1 a2 t5005 _ ?side1 ?side2 A7.out).mono ?_); (case side1 => repeat (first | exact (Kd.R_reads' HO5004.out).2.2 | (with_reducible refine Kd.C_alloc ?_ _) | (with_reducible refine Kd.C_drewN ?_ _) | (with_reducible refine Kd.C_drew ?_))); (case side2 => exact (Kd.R_reads' HO5004.out).2.1); rintro e w22 ⟨rfl, hb⟩; refine ⟨_, rfl, ?_⟩; have n0_ := Aside0.mk (Kd.R_below (by (with_reducible repeat (first | apply Kd.R_alloc | apply Kd.R_drewN | apply Kd.R_drew)); exact HO5004.out) hb); have n1_ := Aside0.mk (below_step (by repeat (first | (with_reducible first | exact HB.out | apply below_alloc | apply pw_below_drewN | apply below_drew1) | exact HB.out)) hb); clear HO5004; clear HB; have HO5004 := n0_; have HB := n1_; clear n0_ n1_; (try clear hb); (try clear hb2); (try clear hk); (try clear hi)) | ((with_reducible refine gate_callee (f := 21) rfl ?_); refine goesL_ (some 22) rfl rfl Try.func21 (by kernel_rfl) rfl #[.slice A0 l0.length c0] rfl (by (try simp only [List.map_toArray, List.map_cons, List.map_nil]); first | done | rfl | (simp only [List.length_drop, List.length_take]; rfl)) ?_; (with_reducible refine (laws_toBoxS.calls k _ _ l0 t5006 _ ?side1 ?side2 A8.out).mono ?_); (case side1 => repeat (first | exact (Kd.C_below HR0.out HB.out) | (with_reducible refine Kd.C_alloc ?_ _) | (with_reducible refine Kd.C_drewN ?_ _) | (with_reducible refine Kd.C_drew ?_))); (case side2 => exact HC0.out); rintro e w23 ⟨v5007, rfl, ho0, hb⟩; refine ⟨_, rfl, ?_⟩; have n0_ := Aside0.mk (Kd.R_elder' (by (with_reducible repeat (first | apply Kd.R_alloc | apply Kd.R_drewN | apply Kd.R_drew)); exact HO5004.out) (Kd.R_base ho0) hb); have n1_ := Aside0.mk (Kd.R_lower (Kd.R_new' ho0 (Kd.R_lt (by (with_reducible repeat (first | apply Kd.R_alloc | apply Kd.R_drewN | apply Kd.R_drew)); exact HO5004.out))) (below_size (by repeat (first | (with_reducible first | exact HB.out | apply below_alloc | apply pw_below_drewN | apply below_drew1) | exact HB.out)))); have n2_ := Aside0.mk (below_step (by repeat (first | (with_reducible first | exact HB.out | apply below_alloc | apply pw_below_drewN | apply below_drew1) | exact HB.out)) hb); clear HO5004; clear HB; have HO5004 := n0_; have HO5008 := n1_; have HB := n2_; clear n0_ n1_ n2_; (try clear hb); (try clear hb2); (try clear hk); (try clear hi); (try clear ho0); obtain ⟨Ao24, co24, eo24⟩ := Kd.R_slice HO5008.out; subst eo24) | ((with_reducible refine gate_callee (f := 22) rfl ?_); refine goesL_ (some 26) rfl rfl Try.func22 (by kernel_rfl) rfl #[.slice Ao24 t5006.length co24, .int .i64 a1, .int .i64 a2] rfl (by (try simp only [List.map_toArray, List.map_cons, List.map_nil]); first | done | rfl | (simp only [List.length_drop, List.length_take]; rfl)) ?_; (with_reducible refine (impl_ValidPacking.calls k _ _ t5006 a1 a2 t5009 _ ?side1 ?side2 A9.out).mono ?_); (case side1 => repeat (first | exact (Kd.R_reads' HO5008.out).2.2 | (with_reducible refine Kd.C_alloc ?_ _) | (with_reducible refine Kd.C_drewN ?_ _) | (with_reducible refine Kd.C_drew ?_))); (case side2 => exact (Kd.R_reads' HO5008.out).2.1); rintro e w25 ⟨rfl, hb⟩; refine ⟨_, rfl, ?_⟩; have n0_ := Aside0.mk (Kd.R_below (by (with_reducible repeat (first | apply Kd.R_alloc | apply Kd.R_drewN | apply Kd.R_drew)); exact HO5004.out) hb); have n1_ := Aside0.mk (Kd.R_below (by (with_reducible repeat (first | apply Kd.R_alloc | apply Kd.R_drewN | apply Kd.R_drew)); exact HO5008.out) hb); have n2_ := Aside0.mk (below_step (by repeat (first | (with_reducible first | exact HB.out | apply below_alloc | apply pw_below_drewN | apply below_drew1) | exact HB.out)) hb); clear HO5004; clear HO5008; clear HB; have HO5004 := n0_; have HO5008 := n1_; have HB := n2_; clear n0_ n1_ n2_; (try clear hb); (try clear hb2); (try clear hk); (try clear hi)) | ((with_reducible refine gate_callee (f := 21) rfl ?_); refine goesL_ (some 32) rfl rfl Try.func21 (by kernel_rfl) rfl #[.slice A0 l0.length c0] rfl (by (try simp only [List.map_toArray, List.map_cons, List.map_nil]); first | done | rfl | (simp only [List.length_drop, List.length_take]; rfl)) ?_; (with_reducible refine (laws_toBoxS.calls k _ _ l0 t5010 _ ?side1 ?side2 A17.out).mono ?_); (case side1 => repeat (first | exact (Kd.C_below HR0.out HB.out) | (with_reducible refine Kd.C_alloc ?_ _) | (with_reducible refine Kd.C_drewN ?_ _) | (with_reducible refine Kd.C_drew ?_))); (case side2 => exact HC0.out); rintro e w26 ⟨v5011, rfl, ho0, hb⟩; refine ⟨_, rfl, ?_⟩; have n0_ := Aside0.mk (Kd.R_elder' (by (with_reducible repeat (first | apply Kd.R_alloc | apply Kd.R_drewN | apply Kd.R_drew)); exact HO5004.out) (Kd.R_base ho0) hb); have n1_ := Aside0.mk (Kd.R_elder' (by (with_reducible repeat (first | apply Kd.R_alloc | apply Kd.R_drewN | apply Kd.R_drew)); exact HO5008.out) (Kd.R_base ho0) hb); have n2_ := Aside0.mk (Kd.R_lower (Kd.R_new' (Kd.R_new' ho0 (Kd.R_lt (by (with_reducible repeat (first | apply Kd.R_alloc | apply Kd.R_drewN | apply Kd.R_drew)); exact HO5004.out))) (Kd.R_lt (by (with_reducible repeat (first | apply Kd.R_alloc | apply Kd.R_drewN | apply Kd.R_drew)); exact HO5008.out))) (below_size (by repeat (first | (with_reducible first | exact HB.out | apply below_alloc | apply pw_below_drewN | apply below_drew1) | exact HB.out)))); have n3_ := Aside0.mk (below_step (by repeat (first | (with_reducible first | exact HB.out | apply below_alloc | apply pw_below_drewN | apply below_drew1) | exact HB.out)) hb); clear HO5004; clear HO5008; clear HB; have HO5004 := n0_; have HO5008 := n1_; have HO5012 := n2_; have HB := n3_; clear n0_ n1_ n2_ n3_; (try clear hb); (try clear hb2); (try clear hk); (try clear hi); (try clear ho0); obtain ⟨Ao27, co27, eo27⟩ := Kd.R_slice HO5012.out; subst eo27) | ((with_reducible refine gate_callee (f := 23) rfl ?_); refine goesL_ (some 33) rfl rfl Try.func23 (by kernel_rfl) rfl #[.slice Ao24 t5006.length co24, .slice Ao27 t5010.length co27] rfl (by (try simp only [List.map_toArray, List.map_cons, List.map_nil]); first | done | rfl | (simp only [List.length_drop, List.length_take]; rfl)) ?_; (with_reducible refine (laws_eqBoxS.calls k _ _ t5006 _ _ t5010 true _ ?side1 ?side2 ?side3 ?side4 A18.out).mono ?_); (case side1 => repeat (first | exact (Kd.R_reads' HO5008.out).2.2 | (with_reducible refine Kd.C_alloc ?_ _) | (with_reducible refine Kd.C_drewN ?_ _) | (with_reducible refine Kd.C_drew ?_))); (case side2 => exact (Kd.R_reads' HO5008.out).2.1); (case side3 => repeat (first | exact (Kd.R_reads' HO5012.out).2.2 | (with_reducible refine Kd.C_alloc ?_ _) | (with_reducible refine Kd.C_drewN ?_ _) | (with_reducible refine Kd.C_drew ?_))); (case side4 => exact (Kd.R_reads' HO5012.out).2.1); rintro e w28 ⟨rfl, hb⟩; refine ⟨_, rfl, ?_⟩; have n0_ := Aside0.mk (Kd.R_below (by (with_reducible repeat (first | apply Kd.R_alloc | apply Kd.R_drewN | apply Kd.R_drew)); exact HO5004.out) hb); have n1_ := Aside0.mk (Kd.R_below (by (with_reducible repeat (first | apply Kd.R_alloc | apply Kd.R_drewN | apply Kd.R_drew)); exact HO5008.out) hb); have n2_ := Aside0.mk (Kd.R_below (by (with_reducible repeat (first | apply Kd.R_alloc | apply Kd.R_drewN | apply Kd.R_drew)); exact HO5012.out) hb); have n3_ := Aside0.mk (below_step (by repeat (first | (with_reducible first | exact HB.out | apply below_alloc | apply pw_below_drewN | apply below_drew1) | exact HB.out)) hb); clear HO5004; clear HO5008; clear HO5012; clear HB; have HO5004 := n0_; have HO5008 := n1_; have HO5012 := n2_; have HB := n3_; clear n0_ n1_ n2_ n3_; (try clear hb); (try clear hb2); (try clear hk); (try clear hi)))
        go_ret
        exact ⟨by first | rfl | (simp [errW_none, errW_some] <;> rfl) | (simp [*, errW_none, errW_some] <;> rfl), by repeat (first | (with_reducible first | exact HB.out | apply below_alloc | apply pw_below_drewN | apply below_drew1) | exact HB.out)⟩
      · replace c19 := Bool.eq_false_iff.mpr c19
        subst c19
        have H1 : (some false) = some r := by rw [if_neg (show ¬ (false = true) by decide)] at H; exact H
        clear H
        have H := H1
        clear H1
        obtain rfl := Option.some.inj H
        go_enter Try.func4, Try.ntmps4
        go_wp2_with (first | ((with_reducible refine gate_callee (f := 19) rfl ?_); refine goesL_ (some 13) rfl rfl Try.func19 (by kernel_rfl) rfl #[.slice A0 l0.length c0, .int .i64 1048576] rfl (by (try simp only [List.map_toArray, List.map_cons, List.map_nil]); first | done | rfl | (simp only [List.length_drop, List.length_take]; rfl)) ?_; (with_reducible refine (laws_szBoxS.calls _ _ l0 1048576 t5001 _ ?side1 ?side2 A4.out).mono ?_); (case side1 => repeat (first | exact HR0.out | (with_reducible refine Kd.C_alloc ?_ _) | (with_reducible refine Kd.C_drewN ?_ _) | (with_reducible refine Kd.C_drew ?_))); (case side2 => exact HC0.out); rintro e w' ⟨rfl, ⟨nd, rfl⟩⟩; refine ⟨_, rfl, ?_⟩) | ((with_reducible refine gate_callee (f := 21) rfl ?_); refine goesL_ (some 17) rfl rfl Try.func21 (by kernel_rfl) rfl #[.slice A0 l0.length c0] rfl (by (try simp only [List.map_toArray, List.map_cons, List.map_nil]); first | done | rfl | (simp only [List.length_drop, List.length_take]; rfl)) ?_; (with_reducible refine (laws_toBoxS.calls k _ _ l0 t5002 _ ?side1 ?side2 A6.out).mono ?_); (case side1 => repeat (first | exact HR0.out | (with_reducible refine Kd.C_alloc ?_ _) | (with_reducible refine Kd.C_drewN ?_ _) | (with_reducible refine Kd.C_drew ?_))); (case side2 => exact HC0.out); rintro e w29 ⟨v5003, rfl, ho0, hb⟩; refine ⟨_, rfl, ?_⟩; have n0_ := Aside0.mk (Kd.R_lower ho0 (below_size (by repeat (first | (with_reducible first | exact HB.out | apply below_alloc | apply pw_below_drewN | apply below_drew1) | exact HB.out)))); have n1_ := Aside0.mk (below_step (by repeat (first | (with_reducible first | exact HB.out | apply below_alloc | apply pw_below_drewN | apply below_drew1) | exact HB.out)) hb); clear HB; have HO5004 := n0_; have HB := n1_; clear n0_ n1_; (try clear hb); (try clear hb2); (try clear hk); (try clear hi); (try clear ho0); obtain ⟨Ao30, co30, eo30⟩ := Kd.R_slice HO5004.out; subst eo30) | ((with_reducible refine gate_callee (f := 20) rfl ?_); refine goesL_ (some 20) rfl rfl Try.func20 (by kernel_rfl) rfl #[.slice Ao30 t5002.length co30, .int .i64 a1, .int .i64 a2] rfl (by (try simp only [List.map_toArray, List.map_cons, List.map_nil]); first | done | rfl | (simp only [List.length_drop, List.length_take]; rfl)) ?_; (with_reducible refine (spec_ValidPacking.calls k _ _ t5002 a1 a2 t5005 _ ?side1 ?side2 A7.out).mono ?_); (case side1 => repeat (first | exact (Kd.R_reads' HO5004.out).2.2 | (with_reducible refine Kd.C_alloc ?_ _) | (with_reducible refine Kd.C_drewN ?_ _) | (with_reducible refine Kd.C_drew ?_))); (case side2 => exact (Kd.R_reads' HO5004.out).2.1); rintro e w31 ⟨rfl, hb⟩; refine ⟨_, rfl, ?_⟩; have n0_ := Aside0.mk (Kd.R_below (by (with_reducible repeat (first | apply Kd.R_alloc | apply Kd.R_drewN | apply Kd.R_drew)); exact HO5004.out) hb); have n1_ := Aside0.mk (below_step (by repeat (first | (with_reducible first | exact HB.out | apply below_alloc | apply pw_below_drewN | apply below_drew1) | exact HB.out)) hb); clear HO5004; clear HB; have HO5004 := n0_; have HB := n1_; clear n0_ n1_; (try clear hb); (try clear hb2); (try clear hk); (try clear hi)) | ((with_reducible refine gate_callee (f := 21) rfl ?_); refine goesL_ (some 22) rfl rfl Try.func21 (by kernel_rfl) rfl #[.slice A0 l0.length c0] rfl (by (try simp only [List.map_toArray, List.map_cons, List.map_nil]); first | done | rfl | (simp only [List.length_drop, List.length_take]; rfl)) ?_; (with_reducible refine (laws_toBoxS.calls k _ _ l0 t5006 _ ?side1 ?side2 A8.out).mono ?_); (case side1 => repeat (first | exact (Kd.C_below HR0.out HB.out) | (with_reducible refine Kd.C_alloc ?_ _) | (with_reducible refine Kd.C_drewN ?_ _) | (with_reducible refine Kd.C_drew ?_))); (case side2 => exact HC0.out); rintro e w32 ⟨v5007, rfl, ho0, hb⟩; refine ⟨_, rfl, ?_⟩; have n0_ := Aside0.mk (Kd.R_elder' (by (with_reducible repeat (first | apply Kd.R_alloc | apply Kd.R_drewN | apply Kd.R_drew)); exact HO5004.out) (Kd.R_base ho0) hb); have n1_ := Aside0.mk (Kd.R_lower (Kd.R_new' ho0 (Kd.R_lt (by (with_reducible repeat (first | apply Kd.R_alloc | apply Kd.R_drewN | apply Kd.R_drew)); exact HO5004.out))) (below_size (by repeat (first | (with_reducible first | exact HB.out | apply below_alloc | apply pw_below_drewN | apply below_drew1) | exact HB.out)))); have n2_ := Aside0.mk (below_step (by repeat (first | (with_reducible first | exact HB.out | apply below_alloc | apply pw_below_drewN | apply below_drew1) | exact HB.out)) hb); clear HO5004; clear HB; have HO5004 := n0_; have HO5008 := n1_; have HB := n2_; clear n0_ n1_ n2_; (try clear hb); (try clear hb2); (try clear hk); (try clear hi); (try clear ho0); obtain ⟨Ao33, co33, eo33⟩ := Kd.R_slice HO5008.out; subst eo33) | ((with_reducible refine gate_callee (f := 22) rfl ?_); refine goesL_ (some 26) rfl rfl Try.func22 (by kernel_rfl) rfl #[.slice Ao33 t5006.length co33, .int .i64 a1, .int .i64 a2] rfl (by (try simp only [List.map_toArray, List.map_cons, List.map_nil]); first | done | rfl | (simp only [List.length_drop, List.length_take]; rfl)) ?_; (with_reducible refine (impl_ValidPacking.calls k _ _ t5006 a1 a2 t5009 _ ?side1 ?side2 A9.out).mono ?_); (case side1 => repeat (first | exact (Kd.R_reads' HO5008.out).2.2 | (with_reducible refine Kd.C_alloc ?_ _) | (with_reducible refine Kd.C_drewN ?_ _) | (with_reducible refine Kd.C_drew ?_))); (case side2 => exact (Kd.R_reads' HO5008.out).2.1); rintro e w34 ⟨rfl, hb⟩; refine ⟨_, rfl, ?_⟩; have n0_ := Aside0.mk (Kd.R_below (by (with_reducible repeat (first | apply Kd.R_alloc | apply Kd.R_drewN | apply Kd.R_drew)); exact HO5004.out) hb); have n1_ := Aside0.mk (Kd.R_below (by (with_reducible repeat (first | apply Kd.R_alloc | apply Kd.R_drewN | apply Kd.R_drew)); exact HO5008.out) hb); have n2_ := Aside0.mk (below_step (by repeat (first | (with_reducible first | exact HB.out | apply below_alloc | apply pw_below_drewN | apply below_drew1) | exact HB.out)) hb); clear HO5004; clear HO5008; clear HB; have HO5004 := n0_; have HO5008 := n1_; have HB := n2_; clear n0_ n1_ n2_; (try clear hb); (try clear hb2); (try clear hk); (try clear hi)) | ((with_reducible refine gate_callee (f := 21) rfl ?_); refine goesL_ (some 32) rfl rfl Try.func21 (by kernel_rfl) rfl #[.slice A0 l0.length c0] rfl (by (try simp only [List.map_toArray, List.map_cons, List.map_nil]); first | done | rfl | (simp only [List.length_drop, List.length_take]; rfl)) ?_; (with_reducible refine (laws_toBoxS.calls k _ _ l0 t5010 _ ?side1 ?side2 A17.out).mono ?_); (case side1 => repeat (first | exact (Kd.C_below HR0.out HB.out) | (with_reducible refine Kd.C_alloc ?_ _) | (with_reducible refine Kd.C_drewN ?_ _) | (with_reducible refine Kd.C_drew ?_))); (case side2 => exact HC0.out); rintro e w35 ⟨v5011, rfl, ho0, hb⟩; refine ⟨_, rfl, ?_⟩; have n0_ := Aside0.mk (Kd.R_elder' (by (with_reducible repeat (first | apply Kd.R_alloc | apply Kd.R_drewN | apply Kd.R_drew)); exact HO5004.out) (Kd.R_base ho0) hb); have n1_ := Aside0.mk (Kd.R_elder' (by (with_reducible repeat (first | apply Kd.R_alloc | apply Kd.R_drewN | apply Kd.R_drew)); exact HO5008.out) (Kd.R_base ho0) hb); have n2_ := Aside0.mk (Kd.R_lower (Kd.R_new' (Kd.R_new' ho0 (Kd.R_lt (by (with_reducible repeat (first | apply Kd.R_alloc | apply Kd.R_drewN | apply Kd.R_drew)); exact HO5004.out))) (Kd.R_lt (by (with_reducible repeat (first | apply Kd.R_alloc | apply Kd.R_drewN | apply Kd.R_drew)); exact HO5008.out))) (below_size (by repeat (first | (with_reducible first | exact HB.out | apply below_alloc | apply pw_below_drewN | apply below_drew1) | exact HB.out)))); have n3_ := Aside0.mk (below_step (by repeat (first | (with_reducible first | exact HB.out | apply below_alloc | apply pw_below_drewN | apply below_drew1) | exact HB.out)) hb); clear HO5004; clear HO5008; clear HB; have HO5004 := n0_; have HO5008 := n1_; have HO5012 := n2_; have HB := n3_; clear n0_ n1_ n2_ n3_; (try clear hb); (try clear hb2); (try clear hk); (try clear hi); (try clear ho0); obtain ⟨Ao36, co36, eo36⟩ := Kd.R_slice HO5012.out; subst eo36) | ((with_reducible refine gate_callee (f := 23) rfl ?_); refine goesL_ (some 33) rfl rfl Try.func23 (by kernel_rfl) rfl #[.slice Ao33 t5006.length co33, .slice Ao36 t5010.length co36] rfl (by (try simp only [List.map_toArray, List.map_cons, List.map_nil]); first | done | rfl | (simp only [List.length_drop, List.length_take]; rfl)) ?_; (with_reducible refine (laws_eqBoxS.calls k _ _ t5006 _ _ t5010 false _ ?side1 ?side2 ?side3 ?side4 A18.out).mono ?_); (case side1 => repeat (first | exact (Kd.R_reads' HO5008.out).2.2 | (with_reducible refine Kd.C_alloc ?_ _) | (with_reducible refine Kd.C_drewN ?_ _) | (with_reducible refine Kd.C_drew ?_))); (case side2 => exact (Kd.R_reads' HO5008.out).2.1); (case side3 => repeat (first | exact (Kd.R_reads' HO5012.out).2.2 | (with_reducible refine Kd.C_alloc ?_ _) | (with_reducible refine Kd.C_drewN ?_ _) | (with_reducible refine Kd.C_drew ?_))); (case side4 => exact (Kd.R_reads' HO5012.out).2.1); rintro e w37 ⟨rfl, hb⟩; refine ⟨_, rfl, ?_⟩; have n0_ := Aside0.mk (Kd.R_below (by (with_reducible repeat (first | apply Kd.R_alloc | apply Kd.R_drewN | apply Kd.R_drew)); exact HO5004.out) hb); have n1_ := Aside0.mk (Kd.R_below (by (with_reducible repeat (first | apply Kd.R_alloc | apply Kd.R_drewN | apply Kd.R_drew)); exact HO5008.out) hb); have n2_ := Aside0.mk (Kd.R_below (by (with_reducible repeat (first | apply Kd.R_alloc | apply Kd.R_drewN | apply Kd.R_drew)); exact HO5012.out) hb); have n3_ := Aside0.mk (below_step (by repeat (first | (with_reducible first | exact HB.out | apply below_alloc | apply pw_below_drewN | apply below_drew1) | exact HB.out)) hb); clear HO5004; clear HO5008; clear HO5012; clear HB; have HO5004 := n0_; have HO5008 := n1_; have HO5012 := n2_; have HB := n3_; clear n0_ n1_ n2_ n3_; (try clear hb); (try clear hb2); (try clear hk); (try clear hi)))
        go_ret
        exact ⟨by first | rfl | (simp [errW_none, errW_some] <;> rfl) | (simp [*, errW_none, errW_some] <;> rfl), by repeat (first | (with_reducible first | exact HB.out | apply below_alloc | apply pw_below_drewN | apply below_drew1) | exact HB.out)⟩

end Go.Proofs.Ytgfjccegehnjcaa.Q

/- What an argument's reading as data tells: numbers, bools, slices and structs of them, by their kinds. -/
namespace Go.Proofs.Ytgfjccegehnjcaa.Q
open Go.RowKit Go.Proofs.YtgfjccegehnjcaaW.PrintWords Go.Proofs.YtgfjccegehnjcaaW.PrintLast Go.Proofs.YtgfjccegehnjcaaW.PrintMore
attribute [local go_sem] max2_int min2_int max_two min_two max_three min_three max_four min_four
set_option linter.unusedVariables false
set_option linter.unusedSimpArgs false
open Go.ChangeShapes Go.WideShapes Go.Deep

/-- A number of 64 bits. -/
def I64 (n : Int) : Prop := -9223372036854775808 ≤ n ∧ n ≤ 9223372036854775807
theorem i64_of (n : Int) (h : (Lit.int .i64 n).wf = true) : I64 n := by
  simp only [Lit.wf, Bool.and_eq_true, decide_eq_true_eq] at h
  have e1 : IntKind.min .i64 = -9223372036854775808 := by decide
  have e2 : IntKind.max .i64 = 9223372036854775807 := by decide
  unfold I64
  omega
/-- Whatever reads at type t as data is a y of this kind, of which Q holds. -/
def Opens {α : Type} (P : Program) (t : TypeId) (d : Kd α) (Q : α → Prop) : Prop :=
  ∀ (H : Type) (enc : TypeId × Value → H) (w : World) (fuel : Nat) (cs : List Value) (x : DataW H × List MemPlace),
    DataW.trod enc P w 0 (fun _ => true) true fuel t cs = some x → ∃ y : α, d.K w y cs ∧ Q y
section
variable {P : Program} {t : TypeId} {α β : Type}
theorem opens_i64 (ht : P.underlying t = some (.int .i64)) : Opens P t (Kd.int .i64) I64 := by
  intro H enc w fuel cs x h
  obtain ⟨n, rfl, _, hw⟩ := DataW.trod_int ht h
  exact ⟨n, rfl, i64_of n hw⟩
theorem opens_bool (ht : P.underlying t = some .bool) : Opens P t Kd.bool (fun _ => True) := by
  intro H enc w fuel cs x h
  obtain ⟨b, rfl, _⟩ := DataW.trod_bool ht h
  exact ⟨b, rfl, trivial⟩
theorem opens_slice {e : TypeId} {d : Kd α} {Q : α → Prop} (ht : P.underlying t = some (.slice e)) (hc : P.cellsOf e = d.sz) (ho : Opens P e d Q) :
    Opens P t (Kd.slice e d) (fun l => ∀ x ∈ l, Q x) := by
  intro H enc w fuel cs x h
  rcases open_slice ht h with ⟨rfl, _⟩ | ⟨a, len, cap, m, n, D, Pl, rfl, _, hl, hm, hmm, _, hi⟩
  · exact ⟨[], ⟨none, 0, rfl, Nat.le_refl _, rfl, by simp, fun h0 => absurd h0 (by simp)⟩, fun x hx => absurd hx (by simp)⟩
  · have hmc : m = cap := by simpa using hmm
    subst hmc
    have each : ∀ i, i < len → ∃ y : α, (∃ c, c.length = d.sz ∧ d.K w y c ∧ ∀ j u, c[j]? = some u → w.cell? (a.add (i * d.sz + j)) = some u) ∧ Q y := by
      intro i hil
      obtain ⟨cs', hcs, htr⟩ := hi i (by omega)
      rw [hc] at hcs
      obtain ⟨_, hcl, hat⟩ := World.cells?_some hcs
      obtain ⟨y, hK, hQ⟩ := ho H enc w n cs' _ htr
      refine ⟨y, ⟨cs', hcl, hK, fun j u hu => ?_⟩, hQ⟩
      have hj : j < d.sz := by rw [← hcl]; exact (List.getElem?_eq_some_iff.1 hu).1
      rw [← Go.Deep.add_add, hat j hj, hu]
    have hY : ∃ ys : List α, ys.length = len ∧ ∀ i, i < len → ∃ y, ys[i]? = some y ∧ (∃ c, c.length = d.sz ∧ d.K w y c ∧ ∀ j u, c[j]? = some u → w.cell? (a.add (i * d.sz + j)) = some u) ∧ Q y := by
      have key : ∀ q, q ≤ len → ∃ ys : List α, ys.length = q ∧ ∀ i, i < q → ∃ y, ys[i]? = some y ∧ (∃ c, c.length = d.sz ∧ d.K w y c ∧ ∀ j u, c[j]? = some u → w.cell? (a.add (i * d.sz + j)) = some u) ∧ Q y := by
        intro q
        induction q with
        | zero => intro _; exact ⟨[], rfl, fun i hi' => absurd hi' (by omega)⟩
        | succ q ih =>
          intro hq
          obtain ⟨ys, hyl, hys⟩ := ih (by omega)
          obtain ⟨y, hy⟩ := each q (by omega)
          refine ⟨ys ++ [y], by simp [hyl], fun i hi' => ?_⟩
          by_cases e : i = q
          · subst e
            exact ⟨y, by rw [List.getElem?_append_right (by omega)]; simp [hyl], hy⟩
          · obtain ⟨z, hz, hz2⟩ := hys i (by omega)
            exact ⟨z, by rw [List.getElem?_append_left (by omega)]; exact hz, hz2⟩
      exact key len (Nat.le_refl _)
    obtain ⟨ys, hyl, hys⟩ := hY
    refine ⟨ys, ⟨some a, m, by rw [hyl], by omega, rfl, by rw [hyl]; simp only [maxLen] at hm; omega, fun _ => ⟨a, rfl, fun j p hj => ?_⟩⟩, fun x hx => ?_⟩
    · have hjl : j < len := by rw [← hyl]; exact (List.getElem?_eq_some_iff.1 hj).1
      obtain ⟨y, hy, hc2, _⟩ := hys j hjl
      rw [hy] at hj
      obtain rfl := Option.some.inj hj
      exact hc2
    · obtain ⟨j, hj, rfl⟩ := List.getElem_of_mem hx
      obtain ⟨y, hy, _, hq⟩ := hys j (by omega)
      rw [List.getElem?_eq_getElem hj] at hy
      obtain rfl := Option.some.inj hy
      exact hq
/-- Fields in line, from the cell 'off' on. -/
def OpensF (P : Program) (fs : List Field) (off : Nat) (d : Kd α) (Q : α → Prop) : Prop :=
  ∀ (H : Type) (enc : TypeId × Value → H) (w : World) (n : Nat) (cs : List Value), cs.length = off + d.sz →
    (∀ f ∈ fs, ∃ x, DataW.trod enc P w 0 (fun _ => true) true n f.type ((cs.drop f.offset).take (P.cellsOf f.type)) = some x) → ∃ y : α, d.K w y (cs.drop off) ∧ Q y
theorem opensF_one {f : Field} {off : Nat} {d : Kd α} {Q : α → Prop} (ho : f.offset = off) (hc : P.cellsOf f.type = d.sz) (h : Opens P f.type d Q) : OpensF P [f] off d Q := by
  intro H enc w n cs hl hf
  obtain ⟨x, hx⟩ := hf f (by simp)
  rw [ho, hc, List.take_of_length_le (by rw [List.length_drop]; omega)] at hx
  exact h H enc w n _ _ hx
theorem opensF_cons {f : Field} {fs : List Field} {off : Nat} {d : Kd α} {Q : α → Prop} {d' : Kd β} {Q' : β → Prop} (ho : f.offset = off) (hc : P.cellsOf f.type = d.sz) (h : Opens P f.type d Q) (h' : OpensF P fs (off + d.sz) d' Q') :
    OpensF P (f :: fs) off (Kd.pair d d') (fun p => Q p.1 ∧ Q' p.2) := by
  intro H enc w n cs hl hf
  have hl' : cs.length = off + (d.sz + d'.sz) := hl
  obtain ⟨x, hx⟩ := hf f (by simp)
  rw [ho, hc] at hx
  obtain ⟨y, hK, hQ⟩ := h H enc w n _ _ hx
  obtain ⟨y', hK', hQ'⟩ := h' H enc w n cs (by omega) (fun g hg => hf g (by simp [hg]))
  refine ⟨(y, y'), ⟨(cs.drop off).take d.sz, cs.drop (off + d.sz), ?_, hK, hK'⟩, hQ, hQ'⟩
  rw [← List.drop_drop, List.take_append_drop]
theorem opens_struct {fs : Array Field} {d : Kd α} {Q : α → Prop} (ht : P.underlying t = some (.struct fs)) (hc : P.cellsOf t = d.sz) (h : OpensF P fs.toList 0 d Q) : Opens P t d Q := by
  intro H enc w fuel cs x hx
  obtain ⟨xs, n, _, _, hcl, hxl, hg⟩ := DataW.trod_struct ht hx
  obtain ⟨y, hK, hQ⟩ := h H enc w n cs (by omega) (fun f hf => by
    obtain ⟨i, hi, rfl⟩ := List.getElem_of_mem hf
    have hi' : i < fs.size := by simpa using hi
    have h1 := hg i (fs.toList[i]) (by simp [hi'])
    rw [List.getElem?_eq_getElem (by omega)] at h1
    exact ⟨_, h1⟩)
  exact ⟨y, by simpa using hK, hQ⟩
theorem opens_iso {d : Kd α} {Q : α → Prop} (f : β → α) (g : α → β) (hfg : ∀ a, f (g a) = a) (h : Opens P t d Q) : Opens P t (Kd.iso d f) (fun b => Q (f b)) := by
  intro H enc w fuel cs x hx
  obtain ⟨y, hK, hQ⟩ := h H enc w fuel cs x hx
  refine ⟨g y, ?_, ?_⟩
  · show d.K w (f (g y)) cs
    rw [hfg]; exact hK
  · show Q (f (g y))
    rw [hfg]; exact hQ
end
end Go.Proofs.Ytgfjccegehnjcaa.Q

/- What is known of structs that came in. -/
namespace Go.Proofs.Ytgfjccegehnjcaa.Q
open Go.RowKit Go.Proofs.YtgfjccegehnjcaaW.PrintWords Go.Proofs.YtgfjccegehnjcaaW.PrintLast Go.Proofs.YtgfjccegehnjcaaW.PrintMore
attribute [local go_sem] max2_int min2_int max_two min_two max_three min_three max_four min_four
set_option linter.unusedVariables false
set_option linter.unusedSimpArgs false
def wf71 (x : S71) : Prop := I64 x.f0 ∧ I64 x.f1 ∧ I64 x.f2 ∧ I64 x.f3
theorem o71 : Opens Try.prog 71 k71 wf71 :=
  opens_iso (fun x : S71 => (x.f0, x.f1, x.f2, x.f3)) (fun p => (⟨p.1, p.2.1, p.2.2.1, p.2.2.2⟩ : S71)) (fun _ => rfl) (opens_struct Try.underlying71 (by kernel_rfl) (opensF_cons rfl (by kernel_rfl) (opens_i64 Try.underlying3) (opensF_cons rfl (by kernel_rfl) (opens_i64 Try.underlying3) (opensF_cons rfl (by kernel_rfl) (opens_i64 Try.underlying3) (opensF_one rfl (by kernel_rfl) (opens_i64 Try.underlying3))))))
end Go.Proofs.Ytgfjccegehnjcaa.Q

/- The statement over plain lists and numbers that is left of the law FnExactValidPacking. -/
namespace Go.Proofs.Ytgfjccegehnjcaa.Q
open Go.RowKit Go.Proofs.YtgfjccegehnjcaaW.PrintWords Go.Proofs.YtgfjccegehnjcaaW.PrintLast Go.Proofs.YtgfjccegehnjcaaW.PrintMore
attribute [local go_sem] max2_int min2_int max_two min_two max_three min_three max_four min_four
set_option linter.unusedVariables false
set_option linter.unusedSimpArgs false
def laws_FnExactValidPacking.Pure : Prop := ∀ (l0 : List (S71)) (a1 : Int) (a2 : Int), (∀ y ∈ l0, wf71 y) → l0.length ≤ 9223372036854775807 → I64 a1 → I64 a2 → ∃ k, laws_FnExactValidPacking.f k l0 a1 a2 = some true
end Go.Proofs.Ytgfjccegehnjcaa.Q

/- Words of this session's own hand-made walks: where the first element lies for which a test holds; draws that follow each other. -/
namespace Go.Proofs.Ytgfjccegehnjcaa.Q
open Go.RowKit Go.Proofs.YtgfjccegehnjcaaW.PrintWords Go.Proofs.YtgfjccegehnjcaaW.PrintLast Go.Proofs.YtgfjccegehnjcaaW.PrintMore
attribute [local go_sem] max2_int min2_int max_two min_two max_three min_three max_four min_four
set_option linter.unusedVariables false
set_option linter.unusedSimpArgs false

theorem dtrans {a b c : World} (h : Drawn0 a b) (k : Drawn0 b c) : Drawn0 a c := by
  obtain ⟨n, rfl⟩ := k
  exact h.step n

/-- where the first element is for which p holds; -1 -/
def idxF {α : Type} (p : α → Bool) : List α → Int
  | [] => -1
  | x :: xs => if p x then 0 else (let r := idxF p xs; if r < 0 then -1 else r + 1)
theorem idxF_lt {α : Type} (p : α → Bool) (l : List α) : idxF p l < l.length := by
  induction l with
  | nil => simp [idxF]
  | cons x xs ih => unfold idxF; split <;> simp <;> (try split) <;> omega
theorem idxF_ge {α : Type} (p : α → Bool) (l : List α) : -1 ≤ idxF p l := by
  induction l with
  | nil => simp [idxF]
  | cons x xs ih => unfold idxF; split <;> simp <;> (try split) <;> omega
theorem idxF_any {α : Type} (p : α → Bool) (l : List α) : decide (idxF p l ≥ 0) = l.any p := by
  induction l with
  | nil => simp [idxF]
  | cons x xs ih =>
    unfold idxF
    by_cases h : p x = true
    · simp [h]
    · simp only [h, List.any_cons, Bool.false_or, ← ih]
      simp only [Bool.false_eq_true, if_false]
      split
      · simp; omega
      · simp; omega
/-- p fails at all that lies before k -/
def SawNone {α : Type} (p : α → Bool) (l : List α) (k : Nat) : Prop := ∀ j, j < k → ∀ h : j < l.length, p l[j] = false
theorem SawNone.succ {α : Type} {p : α → Bool} {l : List α} {k : Nat} (h : SawNone p l k) (hk : k < l.length) (hp : p l[k] = false) : SawNone p l (k + 1) := by
  intro j hj hl
  by_cases e : j = k
  · subst e; exact hp
  · exact h j (by omega) hl
theorem idxF_at {α : Type} (p : α → Bool) (l : List α) (k : Nat) (hk : k < l.length) (hs : SawNone p l k) (hp : p l[k] = true) : idxF p l = k := by
  induction l generalizing k with
  | nil => simp at hk
  | cons x xs ih =>
    unfold idxF
    cases k with
    | zero => simp at hp; simp [hp]
    | succ k =>
      have h0 : p x = false := hs 0 (by omega) (by simp)
      have := ih k (by simpa using hk) (fun j hj h => hs (j + 1) (by omega) (by simpa using h)) (by simpa using hp)
      simp [h0, this]; omega
theorem idxF_none {α : Type} (p : α → Bool) (l : List α) (hs : SawNone p l l.length) : idxF p l = -1 := by
  induction l with
  | nil => rfl
  | cons x xs ih =>
    unfold idxF
    have h0 : p x = false := hs 0 (by simp) (by simp)
    have := ih (fun j hj h => hs (j + 1) (by simpa using hj) (by simpa using h))
    simp [h0, this]
theorem rd_get (l : List Int) (k : Nat) (hk : k < l.length) : rd l k = l[k] := by simp [rd, hk]
theorem ret_int {k : IntKind} {a b : Int} (h : a = b) : Ending.returned (.int k a) = .returned (.int k b) := by rw [h]
theorem ret_bool {a b : Bool} (h : a = b) : Ending.returned (.bool a) = .returned (.bool b) := by rw [h]
end Go.Proofs.Ytgfjccegehnjcaa.Q

/- Plain words: numbers that do not wrap, elements of lists, rounds that are enough. -/
namespace Go.Proofs.Ytgfjccegehnjcaa.Pure
open Go.RowKit Go.Proofs.Ytgfjccegehnjcaa.Q Go.Proofs.YtgfjccegehnjcaaW.PrintWords Go.Proofs.YtgfjccegehnjcaaW.PrintLast Go.Proofs.YtgfjccegehnjcaaW.PrintMore
set_option linter.unusedVariables false
set_option linter.unusedSimpArgs false

theorem w64 {x : Int} (h1 : -9223372036854775808 ≤ x) (h2 : x ≤ 9223372036854775807) : wrap64 x = x := by unfold wrap64; omega
theorem w64n (n : Nat) (h : n < 9000000000000000000) : wrap64 ((n : Int) + 1) = ((n + 1 : Nat) : Int) := by unfold wrap64; omega
theorem rd_nat (l : List Int) (i : Nat) (h : i < l.length) : rd l (i : Int) = l[i] := by simp [rd, h]
theorem tdiv_nn (a b : Int) (h : 0 ≤ a) : Int.tdiv a b = a / b := Int.tdiv_eq_ediv_of_nonneg h
theorem tmod_nn (a b : Int) (h : 0 ≤ a) : Int.tmod a b = a % b := Int.tmod_eq_emod_of_nonneg h
/-- From K rounds on. -/
theorem ev_of {α : Type} {g : Nat → Option α} {r : α} (K : Nat) (h : ∀ k, K < k → g k = some r) : Ev g r := ⟨K + 1, fun k hk => h k (by omega)⟩
theorem ev_const {α : Type} {o : Option α} {r : α} (h : o = some r) : Ev (fun _ => o) r := ⟨0, fun _ _ => h⟩
theorem ev_bind {α β : Type} {g : Nat → Option α} {f : Nat → α → Option β} {a : α} {r : β} (h : Ev g a) (k : Ev (fun n => f n a) r) : Ev (fun n => (g n).bind (f n)) r := Ev.bind h k
theorem ev_now {α β : Type} {o : Option α} {f : Nat → α → Option β} {a : α} {r : β} (h : o = some a) (k : Ev (fun n => f n a) r) : Ev (fun n => o.bind (f n)) r := Ev.bind (ev_const h) k
theorem ev_pos {α : Type} {c : Prop} [Decidable c] {f g : Nat → Option α} {r : α} (h : c) (k : Ev f r) : Ev (fun n => if c then f n else g n) r := by
  simpa [h] using k
theorem ev_neg {α : Type} {c : Prop} [Decidable c] {f g : Nat → Option α} {r : α} (h : ¬ c) (k : Ev g r) : Ev (fun n => if c then f n else g n) r := by
  simpa [h] using k
theorem mn_def (a b : Int) : mn a b = min a b := by unfold mn; omega
theorem mx_def (a b : Int) : mx a b = max a b := by unfold mx; omega
/-- A loop that counts up to n: what it answers from i on. -/
theorem loop_up {σ ρ : Type} (K n : Nat) (L : Nat → Nat → σ → Option ρ) (Inv : Nat → σ → Prop) (F : Nat → σ → ρ)
    (step : ∀ i s k, i < n → Inv i s → K ≤ k → (L (k + 1) i s = some (F i s)) ∨ ∃ s', L (k + 1) i s = L k (i + 1) s' ∧ Inv (i + 1) s' ∧ F (i + 1) s' = F i s)
    (last : ∀ s k, Inv n s → K ≤ k → L (k + 1) n s = some (F n s)) :
    ∀ d i s k, i + d = n → Inv i s → K + d < k → L k i s = some (F i s) := by
  intro d
  induction d with
  | zero =>
    intro i s k hi hinv hk
    obtain ⟨k, rfl⟩ : ∃ m, k = m + 1 := ⟨k - 1, by omega⟩
    have : i = n := by omega
    subst this
    exact last s k hinv (by omega)
  | succ d ih =>
    intro i s k hi hinv hk
    obtain ⟨k, rfl⟩ : ∃ m, k = m + 1 := ⟨k - 1, by omega⟩
    rcases step i s k (by omega) hinv (by omega) with h | ⟨s', h, hi', hF⟩
    · exact h
    · rw [h, ih (i + 1) s' k (by omega) hi' (by omega), hF]
/-- The same, from some number of rounds on: for loops in loops. -/
theorem ev_up {σ ρ : Type} (n : Nat) (L : Nat → Nat → σ → Option ρ) (Inv : Nat → σ → Prop) (F : Nat → σ → ρ)
    (step : ∀ i s, i < n → Inv i s → Ev (fun k => L k i s) (F i s) ∨ ∃ s', (∀ k, L (k + 1) i s = L k (i + 1) s') ∧ Inv (i + 1) s' ∧ F (i + 1) s' = F i s)
    (last : ∀ s, Inv n s → Ev (fun k => L k n s) (F n s)) :
    ∀ d i s, i + d = n → Inv i s → Ev (fun k => L k i s) (F i s) := by
  intro d
  induction d with
  | zero =>
    intro i s hi hinv
    have : i = n := by omega
    subst this
    exact last s hinv
  | succ d ih =>
    intro i s hi hinv
    rcases step i s (by omega) hinv with h | ⟨s', h, hi', hF⟩
    · exact h
    · rw [← hF]
      exact Ev.step h (ih (i + 1) s' (by omega) hi')
theorem ev_val {α : Type} {g : Nat → Option α} {r r' : α} (h : Ev g r) (e : r = r') : Ev g r' := e ▸ h
theorem take_set {α : Type} (s : List α) (i : Nat) (c : α) (h : i < s.length) : (s.set i c).take (i + 1) = s.take i ++ [c] := by
  rw [List.take_succ_eq_append_getElem (by simpa using h), List.take_set_of_le (Nat.le_refl i)]
  simp
end Go.Proofs.Ytgfjccegehnjcaa.Pure

/- Copies of a list of Box: they are the list. -/
namespace Go.Proofs.Ytgfjccegehnjcaa.Pure
open Go.RowKit Go.Proofs.Ytgfjccegehnjcaa.Q Go.Proofs.YtgfjccegehnjcaaW.PrintWords Go.Proofs.YtgfjccegehnjcaaW.PrintLast Go.Proofs.YtgfjccegehnjcaaW.PrintMore
set_option linter.unusedVariables false
set_option linter.unusedSimpArgs false

abbrev Box := S50
abbrev LBox := S71
theorem rdBox (l : List Box) (i : Nat) (h : i < l.length) : rd_T50 l (i : Int) = l[i] := by simp [rd_T50, h]
theorem rdLBox (l : List LBox) (i : Nat) (h : i < l.length) : rd_T71 l (i : Int) = l[i] := by simp [rd_T71, h]
def cBox (r : LBox) : Box := ⟨r.f0, r.f1, r.f2, r.f3⟩
theorem toBoxS_eq (l : List LBox) (hl : l.length ≤ 2000000) (k : Nat) (hk : l.length < k) : laws_toBoxS.f k l = some (l.map cBox) := by
  have h := loop_up 0 l.length (fun k i s => laws_toBoxS.l0 k l s (i : Int)) (fun i s => s.length = l.length) (fun i s => s.take i ++ (l.drop i).map cBox)
    (by
      intro i s k hi hs _
      refine .inr ⟨s.set i (cBox l[i]), ?_, by simpa using hs, ?_⟩
      · simp only [laws_toBoxS.l0]
        rw [if_pos (by omega), if_pos (by omega), rdLBox l i hi]
        simp only [laws_toBox.f, Option.bind_some]
        rw [if_pos (by omega), w64n i (by omega)]; rfl
      · rw [take_set s i _ (by omega), List.drop_eq_getElem_cons hi, List.map_cons, List.append_assoc]; rfl)
    (by
      intro s k hs _
      simp only [laws_toBoxS.l0]
      rw [if_neg (by omega), List.drop_length]; simp [← hs])
    l.length 0 (List.replicate l.length z50) k (by omega) (by simp) (by omega)
  unfold laws_toBoxS.f
  rw [if_pos (by omega), if_pos (by omega)]
  simpa using h
theorem eqBoxS_refl (l : List Box) (hl : l.length ≤ 1000000000000) (k : Nat) (hk : l.length < k) : laws_eqBoxS.f k l l = some true := by
  have h := loop_up 0 l.length (fun k i (_ : Unit) => laws_eqBoxS.l0 k l l (i : Int)) (fun _ _ => True) (fun _ _ => true)
    (by
      intro i s k hi _ _
      refine .inr ⟨(), ?_, trivial, rfl⟩
      simp only [laws_eqBoxS.l0]
      rw [if_pos (by omega), if_pos (by omega), if_pos (by omega), w64n i (by omega)]
      simp [laws_eqBox.f])
    (by
      intro s k _ _
      simp only [laws_eqBoxS.l0]
      rw [if_neg (by omega)])
    l.length 0 () k (by omega) trivial (by omega)
  unfold laws_eqBoxS.f
  rw [if_pos rfl]
  simpa using h
theorem szBoxS_eq (l : List LBox) (n : Int) (h0 : 0 ≤ n) (h1 : n ≤ 1048576) (hl : l.length ≤ 9223372036854775807) :
    (l.length ≤ 1048576 ∧ n - (l.length : Int) ≥ 0 ∧ laws_szBoxS.f l n = some (n - (l.length : Int))) ∨ laws_szBoxS.f l n = some (-1) := by
  unfold laws_szBoxS.f
  by_cases c : (l.length : Int) ≤ n
  · left
    rw [w64 (by omega) (by omega), if_neg (by omega)]
    exact ⟨by omega, by omega, rfl⟩
  · right
    rw [w64 (by omega) (by omega), if_pos (by omega)]
end Go.Proofs.Ytgfjccegehnjcaa.Pure

/- Packings: what the program and the reference take for one. -/
namespace Go.Proofs.Ytgfjccegehnjcaa.Pure
open Go.RowKit Go.Proofs.Ytgfjccegehnjcaa.Q Go.Proofs.YtgfjccegehnjcaaW.PrintWords Go.Proofs.YtgfjccegehnjcaaW.PrintLast Go.Proofs.YtgfjccegehnjcaaW.PrintMore
set_option linter.unusedVariables false
set_option linter.unusedSimpArgs false

theorem inRangeP (n a b : Int) : spec_inRange.f n a b = some (decide (a ≤ n) && decide (n ≤ b)) := by
  unfold spec_inRange.f; by_cases h : a ≤ n <;> simp [h]
/-- A box lies in an atlas. -/
def boxIn (w h : Int) (b : Box) : Bool := decide (0 ≤ b.f0) && decide (0 ≤ b.f1) && decide (1 ≤ b.f2) && decide (1 ≤ b.f3) && decide (b.f0 + b.f2 ≤ w) && decide (b.f1 + b.f3 ≤ h)
theorem boxIn_iff (w h : Int) (b : Box) : boxIn w h b = true ↔ 0 ≤ b.f0 ∧ 0 ≤ b.f1 ∧ 1 ≤ b.f2 ∧ 1 ≤ b.f3 ∧ b.f0 + b.f2 ≤ w ∧ b.f1 + b.f3 ≤ h := by simp [boxIn, and_assoc]
/-- Two boxes have no common pixel. -/
def apartB (a b : Box) : Bool := decide (a.f0 + a.f2 ≤ b.f0) || decide (b.f0 + b.f2 ≤ a.f0) || decide (a.f1 + a.f3 ≤ b.f1) || decide (b.f1 + b.f3 ≤ a.f1)
theorem apartB_iff (a b : Box) : apartB a b = true ↔ a.f0 + a.f2 ≤ b.f0 ∨ b.f0 + b.f2 ≤ a.f0 ∨ a.f1 + a.f3 ≤ b.f1 ∨ b.f1 + b.f3 ≤ a.f1 := by simp [apartB, or_assoc]
def packOKi (w h : Int) (l : List Box) (i : Nat) : Bool := match l[i]? with
  | none => true
  | some b => boxIn w h b && (l.take i).all fun a => apartB a b
/-- All boxes from i on are in the atlas and apart from those before. -/
def packFrom (w h : Int) (l : List Box) (i : Nat) : Bool := (List.range' i (l.length - i)).all (packOKi w h l)
theorem packFrom_end (w h : Int) (l : List Box) : packFrom w h l l.length = true := by simp [packFrom]
theorem packFrom_at (w h : Int) (l : List Box) (i : Nat) (hi : i < l.length) : packFrom w h l i = ((boxIn w h l[i] && (l.take i).all fun a => apartB a l[i]) && packFrom w h l (i + 1)) := by
  unfold packFrom
  rw [show l.length - i = (l.length - (i + 1)) + 1 by omega, List.range'_succ, List.all_cons]
  congr 1
  simp [packOKi, hi]
def atlasOK (l : List Box) (w h : Int) : Bool := decide (1 ≤ w) && decide (w ≤ 64) && decide (0 ≤ h) && decide (h ≤ 192) && decide ((l.length : Int) ≤ 12)
theorem atlasOK_iff (l : List Box) (w h : Int) : atlasOK l w h = true ↔ 1 ≤ w ∧ w ≤ 64 ∧ 0 ≤ h ∧ h ≤ 192 ∧ l.length ≤ 12 := by
  simp [atlasOK, and_assoc]; omega
def packN (l : List Box) (w h : Int) : Bool := atlasOK l w h && packFrom w h l 0

/-- All that stands before is in the atlas. -/
def inAll (w h : Int) (l : List Box) (i : Nat) : Prop := ∀ j (hj : j < l.length), j < i → boxIn w h l[j] = true
theorem all_take_succ (l : List Box) (j : Nat) (hj : j < l.length) (p : Box → Bool) : (l.take (j + 1)).all p = ((l.take j).all p && p l[j]) := by
  rw [List.take_succ_eq_append_getElem hj, List.all_append]; simp
theorem impl_l1 (l : List Box) (w h : Int) (r : Bool) (i : Nat) (hi : i < l.length) (hl : l.length ≤ 12) (hw : w ≤ 64) (hh : h ≤ 192) (hin : inAll w h l (i + 1))
    (hnext : Ev (fun k => impl_ValidPacking.l0 k l w h l (l.length : Int) ((i + 1 : Nat) : Int)) r) :
    Ev (fun k => impl_ValidPacking.l1 k l w h l (l.length : Int) (i : Int) (l.take i) ((l.take i).length : Int) 0 l[i].f0 l[i].f1 l[i].f2 l[i].f3) (((l.take i).all fun a => apartB a l[i]) && r) := by
  have hlt : (l.take i).length = i := by rw [List.length_take]; omega
  have hb := (boxIn_iff _ _ _).1 (hin i hi (by omega))
  have hh := ev_up i (fun k j (_ : Unit) => impl_ValidPacking.l1 k l w h l (l.length : Int) (i : Int) (l.take i) ((l.take i).length : Int) (j : Int) l[i].f0 l[i].f1 l[i].f2 l[i].f3) (fun _ _ => True)
    (fun j _ => ((l.take i).drop j).all (fun a => apartB a l[i]) && r)
    (by
      intro j s hj _
      have ha := (boxIn_iff _ _ _).1 (hin j (by omega) (by omega))
      have hg : (l.take i)[j]'(by omega) = l[j]'(by omega) := by simp
      have hd : ((l.take i).drop j).all (fun a => apartB a l[i]) = (apartB (l[j]'(by omega)) l[i] && ((l.take i).drop (j + 1)).all (fun a => apartB a l[i])) := by
        rw [List.drop_eq_getElem_cons (by omega), List.all_cons, hg]
      rw [hd]
      by_cases c : apartB (l[j]'(by omega)) l[i] = true
      · right
        refine ⟨(), fun k => ?_, trivial, by rw [c, Bool.true_and]⟩
        rw [apartB_iff] at c
        simp only [impl_ValidPacking.l1]
        rw [if_pos (by omega), if_pos (by omega), if_pos (by omega), rdBox (l.take i) j (by omega), hg, w64n j (by omega), w64 (x := (l[j]'(by omega)).f0 + (l[j]'(by omega)).f2) (by omega) (by omega), w64 (x := l[i].f0 + l[i].f2) (by omega) (by omega),
          w64 (x := (l[j]'(by omega)).f1 + (l[j]'(by omega)).f3) (by omega) (by omega), w64 (x := l[i].f1 + l[i].f3) (by omega) (by omega)]
        by_cases c1 : l[i].f0 < (l[j]'(by omega)).f0 + (l[j]'(by omega)).f2
        · rw [if_pos c1]
          by_cases c2 : (l[j]'(by omega)).f0 < l[i].f0 + l[i].f2
          · rw [if_pos c2]
            by_cases c3 : l[i].f1 < (l[j]'(by omega)).f1 + (l[j]'(by omega)).f3
            · rw [if_pos c3, if_neg (by omega)]
            · rw [if_neg c3]
          · rw [if_neg c2]
        · rw [if_neg c1]
      · left
        have cf : apartB (l[j]'(by omega)) l[i] = false := by simpa using c
        rw [cf, Bool.false_and, Bool.false_and]
        rw [apartB_iff] at c
        refine Ev.step (f := fun _ => some false) (fun k => ?_) (Ev.now false)
        simp only [impl_ValidPacking.l1]
        rw [if_pos (by omega), if_pos (by omega), if_pos (by omega), rdBox (l.take i) j (by omega), hg, w64 (x := (l[j]'(by omega)).f0 + (l[j]'(by omega)).f2) (by omega) (by omega), w64 (x := l[i].f0 + l[i].f2) (by omega) (by omega),
          w64 (x := (l[j]'(by omega)).f1 + (l[j]'(by omega)).f3) (by omega) (by omega), w64 (x := l[i].f1 + l[i].f3) (by omega) (by omega), if_pos (by omega), if_pos (by omega), if_pos (by omega), if_pos (by omega)])
    (by
      intro s _
      have : ((l.take i).drop i) = [] := List.drop_of_length_le (by omega)
      rw [this]
      simp only [List.all_nil, Bool.true_and]
      refine Ev.step (fun k => ?_) hnext
      simp only [impl_ValidPacking.l1]
      rw [if_neg (by omega), w64n i (by omega)])
    i 0 () (by omega) trivial
  simpa using hh
theorem impl_l0 (l : List Box) (w h : Int) (hl : l.length ≤ 12) (hw0 : 1 ≤ w) (hw : w ≤ 64) (hh0 : 0 ≤ h) (hh : h ≤ 192) (hwf : ∀ b ∈ l, (-9223372036854775808 ≤ b.f0 ∧ b.f0 ≤ 9223372036854775807) ∧ (-9223372036854775808 ≤ b.f1 ∧ b.f1 ≤ 9223372036854775807)) :
    ∀ d i, i + d = l.length → inAll w h l i → Ev (fun k => impl_ValidPacking.l0 k l w h l (l.length : Int) (i : Int)) (packFrom w h l i) := by
  intro d
  induction d with
  | zero =>
    intro i hi _
    have : i = l.length := by omega
    subst this
    rw [packFrom_end]
    refine Ev.step (f := fun _ => some true) (fun k => ?_) (Ev.now true)
    simp only [impl_ValidPacking.l0]
    rw [if_neg (by omega)]
  | succ d ih =>
    intro i hi hin
    have hlt : i < l.length := by omega
    have hb := hwf l[i] (List.getElem_mem hlt)
    rw [packFrom_at w h l i hlt]
    by_cases c : boxIn w h l[i] = true
    · have hin' : inAll w h l (i + 1) := by
        intro j hj hji
        by_cases e : j = i
        · subst e; exact c
        · exact hin j hj (by omega)
      have hn := ih (i + 1) (by omega) hin'
      have h1 := impl_l1 l w h _ i hlt hl hw hh hin' hn
      rw [c, Bool.true_and]
      rw [boxIn_iff] at c
      refine Ev.step (f := fun k => impl_ValidPacking.j2 k l w h (i : Int) l (l.length : Int) (i : Int) false l[i].f0 l[i].f1 l[i].f2 l[i].f3) (fun k => ?_) ?_
      · simp only [impl_ValidPacking.l0]
        rw [if_pos (by omega), if_pos (by omega), if_pos (by omega), rdBox l i hlt, if_neg (by omega), if_neg (by omega), if_neg (by omega), if_neg (by omega), if_neg (by omega), w64 (x := w - l[i].f0) (by omega) (by omega), if_neg (by omega), if_neg (by omega), w64 (x := h - l[i].f1) (by omega) (by omega)]
        congr 1
        simp; omega
      · refine Ev.step (fun k => ?_) h1
        simp only [impl_ValidPacking.j2]
        rw [if_neg (by simp), if_pos (by omega), if_pos (by omega), Int.toNat_natCast]
        rfl
    · have cf : boxIn w h l[i] = false := by simpa using c
      rw [cf, Bool.false_and, Bool.false_and]
      rw [boxIn_iff] at c
      refine Ev.step (f := fun k => impl_ValidPacking.j2 k l w h (i : Int) l (l.length : Int) (i : Int) true l[i].f0 l[i].f1 l[i].f2 l[i].f3) (fun k => ?_) ?_
      · simp only [impl_ValidPacking.l0]
        rw [if_pos (by omega), if_pos (by omega), if_pos (by omega), rdBox l i hlt]
        by_cases c1 : l[i].f0 < 0
        · rw [if_pos c1]
        rw [if_neg c1]
        by_cases c2 : l[i].f0 > w
        · rw [if_pos c2]
        rw [if_neg c2]
        by_cases c3 : l[i].f1 < 0
        · rw [if_pos c3]
        rw [if_neg c3]
        by_cases c4 : l[i].f1 > h
        · rw [if_pos c4]
        rw [if_neg c4]
        by_cases c5 : l[i].f2 < 1
        · rw [if_pos c5]
        rw [if_neg c5, w64 (x := w - l[i].f0) (by omega) (by omega)]
        by_cases c6 : l[i].f2 > w - l[i].f0
        · rw [if_pos c6]
        rw [if_neg c6]
        by_cases c7 : l[i].f3 < 1
        · rw [if_pos c7]
        rw [if_neg c7, w64 (x := h - l[i].f1) (by omega) (by omega)]
        congr 1
        simp; omega
      · refine Ev.step (f := fun _ => some false) (fun k => ?_) (Ev.now false)
        simp only [impl_ValidPacking.j2]
        rw [if_pos trivial]
theorem impl_ValidPacking_ev (l : List Box) (w h : Int) (hwf : ∀ b ∈ l, (-9223372036854775808 ≤ b.f0 ∧ b.f0 ≤ 9223372036854775807) ∧ (-9223372036854775808 ≤ b.f1 ∧ b.f1 ≤ 9223372036854775807)) :
    Ev (fun k => impl_ValidPacking.f k l w h) (packN l w h) := by
  unfold packN
  have bad : Ev (fun k => impl_ValidPacking.j0 k l w h true) false := by
    refine Ev.step (f := fun _ => some false) (fun k => ?_) (Ev.now false)
    simp only [impl_ValidPacking.j0]
    rw [if_pos trivial]
  by_cases c : atlasOK l w h = true
  · rw [c, Bool.true_and]
    rw [atlasOK_iff] at c
    have h0 := impl_l0 l w h c.2.2.2.2 c.1 c.2.1 c.2.2.1 c.2.2.2.1 hwf l.length 0 (by omega) (fun j hj hji => absurd hji (by omega))
    refine Ev.congr (f := fun k => impl_ValidPacking.j0 k l w h false) (fun k => ?_) ?_
    · unfold impl_ValidPacking.f
      rw [if_neg (by omega), if_neg (by omega), if_neg (by omega), if_neg (by omega)]
      congr 1
      simp; omega
    · refine Ev.step (fun k => ?_) h0
      simp only [impl_ValidPacking.j0]
      rw [if_neg (by simp)]; rfl
  · have cf : atlasOK l w h = false := by simpa using c
    rw [cf, Bool.false_and]
    rw [atlasOK_iff] at c
    refine Ev.congr (f := fun k => impl_ValidPacking.j0 k l w h true) (fun k => ?_) bad
    unfold impl_ValidPacking.f
    by_cases c1 : (l.length : Int) > 12
    · rw [if_pos c1]
    rw [if_neg c1]
    by_cases c2 : w < 1
    · rw [if_pos c2]
    rw [if_neg c2]
    by_cases c3 : w > 64
    · rw [if_pos c3]
    rw [if_neg c3]
    by_cases c4 : h < 0
    · rw [if_pos c4]
    rw [if_neg c4]
    congr 1
    simp; omega
/-! the reference -/
theorem spec_apart_eq (w h : Int) (a b : Box) (hw : w ≤ 64) (hh : h ≤ 192) (ha : boxIn w h a = true) (hb : boxIn w h b = true) : spec_apart.f a.f0 a.f1 a.f2 a.f3 b.f0 b.f1 b.f2 b.f3 = some (apartB a b) := by
  rw [boxIn_iff] at ha hb
  unfold spec_apart.f apartB
  rw [w64 (x := a.f0 + a.f2) (by omega) (by omega), w64 (x := b.f0 + b.f2) (by omega) (by omega), w64 (x := a.f1 + a.f3) (by omega) (by omega), w64 (x := b.f1 + b.f3) (by omega) (by omega)]
  by_cases c1 : a.f0 + a.f2 ≤ b.f0
  · simp [c1]
  by_cases c2 : b.f0 + b.f2 ≤ a.f0
  · simp [c2]
  by_cases c3 : a.f1 + a.f3 ≤ b.f1
  · simp [c3]
  · simp [c1, c2, c3]
theorem spec_apart_some (a0 a1 a2 a3 b0 b1 b2 b3 : Int) : ∃ r, spec_apart.f a0 a1 a2 a3 b0 b1 b2 b3 = some r := by
  unfold spec_apart.f
  split
  · exact ⟨_, rfl⟩
  split
  · exact ⟨_, rfl⟩
  split
  · exact ⟨_, rfl⟩
  · exact ⟨_, rfl⟩
/-- An atlas that is none: false in the end, whatever comes before. -/
theorem spec_bad_l0 (l : List Box) (w h : Int) (hl : l.length ≤ 1000000000) (hbad : ¬ atlasOK l w h = true) :
    ∀ d i, i + d = l.length → Ev (fun k => spec_ValidPacking.l0 k l w h (i : Int)) false := by
  intro d
  induction d with
  | zero =>
    intro i hi
    refine Ev.step (f := fun _ => some false) (fun k => ?_) (Ev.now false)
    rw [atlasOK_iff] at hbad
    simp only [spec_ValidPacking.l0]
    rw [if_neg (by omega), inRangeP, inRangeP]
    simp only [Option.bind_some]
    by_cases c1 : 1 ≤ w ∧ w ≤ 64
    · rw [if_pos (by simpa using c1)]
      by_cases c2 : 0 ≤ h ∧ h ≤ 192
      · rw [if_pos (by simpa using c2)]
        congr 1
        simp; omega
      · rw [if_neg (by simpa using c2)]
    · rw [if_neg (by simpa using c1)]
  | succ d ih =>
    intro i hi
    have hlt : i < l.length := by omega
    have hn := ih (i + 1) (by omega)
    have hj : ∀ b, Ev (fun k => spec_ValidPacking.j1 k l w h (i : Int) b l[i].f0 l[i].f1 l[i].f2 l[i].f3) false := by
      intro b
      cases b with
      | true =>
        refine Ev.step (f := fun _ => some false) (fun k => ?_) (Ev.now false)
        simp only [spec_ValidPacking.j1]
        rw [if_pos trivial]
      | false =>
        have h1 := ev_up i (fun k j (_ : Unit) => spec_ValidPacking.l1 k l w h (i : Int) (j : Int) l[i].f0 l[i].f1 l[i].f2 l[i].f3) (fun _ _ => True) (fun _ _ => false)
          (by
            intro j s hj _
            obtain ⟨r, hr⟩ := spec_apart_some (l[j]'(by omega)).f0 (l[j]'(by omega)).f1 (l[j]'(by omega)).f2 (l[j]'(by omega)).f3 l[i].f0 l[i].f1 l[i].f2 l[i].f3
            cases r with
            | true =>
              right
              refine ⟨(), fun k => ?_, trivial, rfl⟩
              simp only [spec_ValidPacking.l1]
              rw [if_pos (by omega), if_pos (by omega), if_pos (by omega), rdBox l j (by omega), hr, w64n j (by omega)]
              simp only [Option.bind_some, if_true]
            | false =>
              left
              refine Ev.step (f := fun _ => some false) (fun k => ?_) (Ev.now false)
              simp only [spec_ValidPacking.l1]
              rw [if_pos (by omega), if_pos (by omega), if_pos (by omega), rdBox l j (by omega), hr]
              simp)
          (by
            intro s _
            refine Ev.step (fun k => ?_) hn
            simp only [spec_ValidPacking.l1]
            rw [if_neg (by omega), w64n i (by omega)])
          i 0 () (by omega) trivial
        refine Ev.step (fun k => ?_) h1
        simp only [spec_ValidPacking.j1]
        rw [if_neg (by simp)]; rfl
    have hs : ∃ b, ∀ k, spec_ValidPacking.l0 (k + 1) l w h (i : Int) = spec_ValidPacking.j1 k l w h (i : Int) b l[i].f0 l[i].f1 l[i].f2 l[i].f3 := by
      refine ⟨!((((decide (1 ≤ l[i].f2) && decide (l[i].f2 ≤ w)) && (decide (1 ≤ l[i].f3) && decide (l[i].f3 ≤ h))) && (decide (0 ≤ l[i].f0) && decide (l[i].f0 ≤ wrap64 (w - l[i].f2)))) && (decide (0 ≤ l[i].f1) && decide (l[i].f1 ≤ wrap64 (h - l[i].f3)))), fun k => ?_⟩
      simp only [spec_ValidPacking.l0]
      rw [if_pos (by omega), if_pos (by omega), rdBox l i hlt, inRangeP, inRangeP, inRangeP, inRangeP]
      simp only [Option.bind_some]
      cases hc1 : (decide (1 ≤ l[i].f2) && decide (l[i].f2 ≤ w)) <;> cases hc2 : (decide (1 ≤ l[i].f3) && decide (l[i].f3 ≤ h)) <;> cases hc3 : (decide (0 ≤ l[i].f0) && decide (l[i].f0 ≤ wrap64 (w - l[i].f2))) <;> simp
    obtain ⟨b, hb⟩ := hs
    exact Ev.step hb (hj b)
theorem spec_good_l0 (l : List Box) (w h : Int) (ok : atlasOK l w h = true) :
    ∀ d i, i + d = l.length → inAll w h l i → Ev (fun k => spec_ValidPacking.l0 k l w h (i : Int)) (packFrom w h l i) := by
  have ok' := ok
  rw [atlasOK_iff] at ok
  obtain ⟨hw0, hw, hh0, hh, hl⟩ := ok
  intro d
  induction d with
  | zero =>
    intro i hi _
    have : i = l.length := by omega
    subst this
    rw [packFrom_end]
    refine Ev.step (f := fun _ => some true) (fun k => ?_) (Ev.now true)
    simp only [spec_ValidPacking.l0]
    rw [if_neg (by omega), inRangeP, inRangeP]
    simp only [Option.bind_some]
    rw [if_pos (by simp; omega), if_pos (by simp; omega)]
    congr 1
    simp; omega
  | succ d ih =>
    intro i hi hin
    have hlt : i < l.length := by omega
    rw [packFrom_at w h l i hlt]
    by_cases c : boxIn w h l[i] = true
    · have hin' : inAll w h l (i + 1) := by
        intro j hj hji
        by_cases e : j = i
        · subst e; exact c
        · exact hin j hj (by omega)
      have hn := ih (i + 1) (by omega) hin'
      have h1 := ev_up i (fun k j (_ : Unit) => spec_ValidPacking.l1 k l w h (i : Int) (j : Int) l[i].f0 l[i].f1 l[i].f2 l[i].f3) (fun _ _ => True) (fun j _ => ((l.take i).drop j).all (fun a => apartB a l[i]) && packFrom w h l (i + 1))
        (by
          intro j s hj _
          have hg : (l.take i)[j]'(by rw [List.length_take]; omega) = l[j]'(by omega) := by simp
          have hd : ((l.take i).drop j).all (fun a => apartB a l[i]) = (apartB (l[j]'(by omega)) l[i] && ((l.take i).drop (j + 1)).all (fun a => apartB a l[i])) := by
            rw [List.drop_eq_getElem_cons (by rw [List.length_take]; omega), List.all_cons, hg]
          have hr := spec_apart_eq w h (l[j]'(by omega)) l[i] hw hh (hin' j (by omega) (by omega)) c
          rw [hd]
          by_cases ca : apartB (l[j]'(by omega)) l[i] = true
          · right
            refine ⟨(), fun k => ?_, trivial, by rw [ca, Bool.true_and]⟩
            rw [ca] at hr
            simp only [spec_ValidPacking.l1]
            rw [if_pos (by omega), if_pos (by omega), if_pos (by omega), rdBox l j (by omega), hr, w64n j (by omega)]
            simp only [Option.bind_some, if_true]
          · left
            have cf : apartB (l[j]'(by omega)) l[i] = false := by simpa using ca
            rw [cf] at hr ⊢
            rw [Bool.false_and, Bool.false_and]
            refine Ev.step (f := fun _ => some false) (fun k => ?_) (Ev.now false)
            simp only [spec_ValidPacking.l1]
            rw [if_pos (by omega), if_pos (by omega), if_pos (by omega), rdBox l j (by omega), hr]
            simp)
        (by
          intro s _
          have : ((l.take i).drop i) = [] := List.drop_of_length_le (by rw [List.length_take]; omega)
          rw [this]
          simp only [List.all_nil, Bool.true_and]
          refine Ev.step (fun k => ?_) hn
          simp only [spec_ValidPacking.l1]
          rw [if_neg (by omega), w64n i (by omega)])
        i 0 () (by omega) trivial
      rw [c, Bool.true_and]
      rw [boxIn_iff] at c
      refine Ev.step (f := fun k => spec_ValidPacking.j1 k l w h (i : Int) false l[i].f0 l[i].f1 l[i].f2 l[i].f3) (fun k => ?_) ?_
      · simp only [spec_ValidPacking.l0]
        rw [if_pos (by omega), if_pos (by omega), rdBox l i hlt, inRangeP, inRangeP, inRangeP, inRangeP]
        simp only [Option.bind_some]
        rw [w64 (x := w - l[i].f2) (by omega) (by omega), w64 (x := h - l[i].f3) (by omega) (by omega), if_pos (by simp; omega), if_pos (by simp; omega), if_pos (by simp; omega)]
        congr 1
        simp; omega
      · refine Ev.step (fun k => ?_) (by simpa using h1)
        simp only [spec_ValidPacking.j1]
        rw [if_neg (by simp)]
    · have cf : boxIn w h l[i] = false := by simpa using c
      rw [cf, Bool.false_and, Bool.false_and]
      rw [boxIn_iff] at c
      refine Ev.step (f := fun k => spec_ValidPacking.j1 k l w h (i : Int) true l[i].f0 l[i].f1 l[i].f2 l[i].f3) (fun k => ?_) ?_
      · simp only [spec_ValidPacking.l0]
        rw [if_pos (by omega), if_pos (by omega), rdBox l i hlt, inRangeP, inRangeP, inRangeP, inRangeP]
        simp only [Option.bind_some]
        by_cases c1 : 1 ≤ l[i].f2 ∧ l[i].f2 ≤ w
        · rw [if_pos (by simpa using c1), w64 (x := w - l[i].f2) (by omega) (by omega)]
          by_cases c2 : 1 ≤ l[i].f3 ∧ l[i].f3 ≤ h
          · rw [if_pos (by simpa using c2), w64 (x := h - l[i].f3) (by omega) (by omega)]
            by_cases c3 : 0 ≤ l[i].f0 ∧ l[i].f0 ≤ w - l[i].f2
            · rw [if_pos (by simpa using c3)]
              congr 1
              simp; omega
            · rw [if_neg (by simpa using c3)]
          · rw [if_neg (by simpa using c2)]
        · rw [if_neg (by simpa using c1)]
      · refine Ev.step (f := fun _ => some false) (fun k => ?_) (Ev.now false)
        simp only [spec_ValidPacking.j1]
        rw [if_pos trivial]
theorem spec_ValidPacking_ev (l : List Box) (w h : Int) (hl : l.length ≤ 1000000000) : Ev (fun k => spec_ValidPacking.f k l w h) (packN l w h) := by
  unfold packN
  by_cases c : atlasOK l w h = true
  · rw [c, Bool.true_and]
    exact spec_good_l0 l w h c l.length 0 (by omega) (fun j hj hji => absurd hji (by omega))
  · have cf : atlasOK l w h = false := by simpa using c
    rw [cf, Bool.false_and]
    exact spec_bad_l0 l w h hl c l.length 0 (by omega)
end Go.Proofs.Ytgfjccegehnjcaa.Pure

/- The program's ValidPacking and the reference's answer the same, and leave their boxes alone: over lists of numbers alone. -/
namespace Go.Proofs.Ytgfjccegehnjcaa.Pure
open Go.RowKit Go.Proofs.Ytgfjccegehnjcaa.Q Go.Proofs.YtgfjccegehnjcaaW.PrintWords Go.Proofs.YtgfjccegehnjcaaW.PrintLast Go.Proofs.YtgfjccegehnjcaaW.PrintMore
set_option linter.unusedVariables false
set_option linter.unusedSimpArgs false

theorem FnExactValidPacking : laws_FnExactValidPacking.Pure := by
  intro l w h hwf hl _ _
  apply Ev.rounds
  unfold laws_FnExactValidPacking.f
  rcases szBoxS_eq l 1048576 (by omega) (by omega) hl with ⟨hn, h0, hs⟩ | hs
  · have hc : Ev (fun k => laws_toBoxS.f k l) (l.map cBox) := ev_of l.length (fun k hk => toBoxS_eq l (by omega) k hk)
    have hw' : ∀ b ∈ l.map cBox, (-9223372036854775808 ≤ b.f0 ∧ b.f0 ≤ 9223372036854775807) ∧ (-9223372036854775808 ≤ b.f1 ∧ b.f1 ≤ 9223372036854775807) := by
      intro b hb
      obtain ⟨r, hr, rfl⟩ := List.mem_map.1 hb
      have := hwf r hr
      exact ⟨this.1, this.2.1⟩
    refine ev_now hs ?_
    refine ev_neg (by omega) ?_
    refine ev_bind hc ?_
    refine ev_bind (spec_ValidPacking_ev _ w h (by simp; omega)) ?_
    refine ev_bind hc ?_
    refine ev_bind (impl_ValidPacking_ev _ w h hw') ?_
    refine ev_neg (by simp) ?_
    refine ev_bind hc ?_
    refine ev_bind (ev_of (l.map cBox).length (fun k hk => eqBoxS_refl _ (by simp; omega) k hk)) ?_
    exact ev_pos rfl (Ev.now true)
  · refine ev_now hs ?_
    exact ev_pos (by omega) (Ev.now true)
end Go.Proofs.Ytgfjccegehnjcaa.Pure

/- The head of the translation reads as a plain cut. -/
namespace Go.Proofs.Ytgfjccegehnjcaa.Head
set_option maxRecDepth 100000
theorem wordsSigns_word (w r : List Char) (h : w.all (fun c => !(c == Char.ofNat 32)) = true) : wordsSigns (w ++ Char.ofNat 32 :: r) = w :: wordsSigns r := by
  induction w with
  | nil => rfl
  | cons c w ih =>
    simp only [List.all_cons, Bool.and_eq_true, Bool.not_eq_true', beq_eq_false_iff_ne, ne_eq] at h
    have h1 := ih (by simpa using h.2)
    rw [List.cons_append, wordsSigns.eq_3 c _ h.1, h1]
def w1 : List Char := [104, 97, 114, 110, 101, 115, 115].map Char.ofNat
def w2 : List Char := [48, 100, 49, 102, 49, 53, 55, 48, 99, 99, 57, 98, 53, 48, 51, 53, 98, 98, 54, 53, 53, 57, 52, 57, 56, 56, 101, 56, 99, 56, 56, 54, 99, 98, 102, 101, 54, 98, 57, 100, 98, 48, 99, 102, 53, 100, 51, 56, 102, 56, 97, 48, 54, 100, 52, 52, 97, 98, 97, 98, 99, 53, 52, 48].map Char.ofNat
def w3 : List Char := [99, 117, 116].map Char.ofNat
def w4 : List Char := [97, 116, 32, 108, 111, 111, 112, 46, 101, 120, 97, 109, 112, 108, 101, 47, 112, 105, 120, 101, 108, 119, 111, 114, 107, 115, 47, 108, 97, 119, 115, 46, 70, 110, 69, 120, 97, 99, 116, 66, 108, 101, 110, 100, 78, 117, 109, 98, 101, 114, 32, 108, 111, 111, 112, 46, 101, 120, 97, 109, 112, 108, 101, 47, 112, 105, 120, 101, 108, 119, 111, 114, 107, 115, 47, 108, 97, 119, 115, 46, 70, 110, 69, 120, 97, 99, 116, 86, 97, 108, 105, 100, 80, 97, 99, 107, 105, 110, 103, 32, 108, 111, 111, 112, 46, 101, 120, 97, 109, 112, 108, 101, 47, 112, 105, 120, 101, 108, 119, 111, 114, 107, 115, 47, 108, 97, 119, 115, 46, 70, 110, 69, 120, 97, 99, 116, 76, 101, 97, 115, 116, 72, 101, 105, 103, 104, 116, 32, 108, 111, 111, 112, 46, 101, 120, 97, 109, 112, 108, 101, 47, 112, 105, 120, 101, 108, 119, 111, 114, 107, 115, 47, 108, 97, 119, 115, 46, 70, 110, 76, 101, 97, 115, 116, 72, 101, 105, 103, 104, 116, 32, 108, 111, 111, 112, 46, 101, 120, 97, 109, 112, 108, 101, 47, 112, 105, 120, 101, 108, 119, 111, 114, 107, 115, 47, 108, 97, 119, 115, 46, 70, 110, 66, 108, 101, 110, 100, 78, 117, 109, 98, 101, 114, 32, 108, 111, 111, 112, 46, 101, 120, 97, 109, 112, 108, 101, 47, 112, 105, 120, 101, 108, 119, 111, 114, 107, 115, 47, 108, 97, 119, 115, 46, 70, 110, 66, 108, 101, 110, 100, 78, 117, 109, 98, 101, 114, 73, 110, 118, 101, 114, 116, 32, 108, 111, 111, 112, 46, 101, 120, 97, 109, 112, 108, 101, 47, 112, 105, 120, 101, 108, 119, 111, 114, 107, 115, 47, 108, 97, 119, 115, 46, 70, 110, 66, 108, 101, 110, 100, 78, 117, 109, 98, 101, 114, 77, 111, 100, 101, 115, 32, 108, 111, 111, 112, 46, 101, 120, 97, 109, 112, 108, 101, 47, 112, 105, 120, 101, 108, 119, 111, 114, 107, 115, 47, 108, 97, 119, 115, 46, 70, 110, 66, 108, 101, 110, 100, 78, 117, 109, 98, 101, 114, 65, 108, 112, 104, 97, 32, 108, 111, 111, 112, 46, 101, 120, 97, 109, 112, 108, 101, 47, 112, 105, 120, 101, 108, 119, 111, 114, 107, 115, 47, 108, 97, 119, 115, 46, 70, 110, 86, 97, 108, 105, 100, 80, 97, 99, 107, 105, 110, 103, 32, 108, 111, 111, 112, 46, 101, 120, 97, 109, 112, 108, 101, 47, 112, 105, 120, 101, 108, 119, 111, 114, 107, 115, 47, 108, 97, 119, 115, 46, 70, 110, 86, 97, 108, 105, 100, 80, 97, 99, 107, 105, 110, 103, 84, 119, 105, 99, 101, 32, 108, 111, 111, 112, 46, 101, 120, 97, 109, 112, 108, 101, 47, 112, 105, 120, 101, 108, 119, 111, 114, 107, 115, 47, 108, 97, 119, 115, 46, 70, 110, 80, 97, 99, 107, 83, 112, 114, 105, 116, 101, 115, 79, 110, 101, 32, 108, 111, 111, 112, 46, 101, 120, 97, 109, 112, 108, 101, 47, 112, 105, 120, 101, 108, 119, 111, 114, 107, 115, 47, 108, 97, 119, 115, 46, 70, 110, 80, 97, 99, 107, 83, 112, 114, 105, 116, 101, 115, 72, 101, 105, 103, 104, 116, 32, 108, 111, 111, 112, 46, 101, 120, 97, 109, 112, 108, 101, 47, 112, 105, 120, 101, 108, 119, 111, 114, 107, 115, 47, 108, 97, 119, 115, 46, 70, 110, 83, 105, 109, 112, 108, 105, 102, 121, 83, 116, 101, 112, 115, 84, 119, 105, 99, 101, 32, 108, 111, 111, 112, 46, 101, 120, 97, 109, 112, 108, 101, 47, 112, 105, 120, 101, 108, 119, 111, 114, 107, 115, 47, 108, 97, 119, 115, 46, 70, 110, 69, 120, 97, 99, 116, 83, 105, 109, 112, 108, 105, 102, 121, 83, 116, 101, 112, 115].map Char.ofNat
theorem signs0 : Try.prog.initOrder = String.ofList (w1 ++ Char.ofNat 32 :: (w2 ++ Char.ofNat 32 :: (w3 ++ Char.ofNat 32 :: w4))) := by kernel_rfl
theorem behind : behindMainWord (wordsSigns Try.prog.initOrder.toList) = w3 :: wordsSigns w4 := by
  rw [signs0, String.toList_ofList, wordsSigns_word w1 _ (by kernel_rfl), wordsSigns_word w2 _ (by kernel_rfl), wordsSigns_word w3 _ (by kernel_rfl)]
  unfold behindMainWord
  dsimp only
  rw [if_pos (by kernel_rfl)]
theorem strip_cut (R : List (List Char)) : stripLifts liftWords (w3 :: R) = ([], w3 :: R) := by kernel_rfl
theorem mayEnter_of (P : Program) (R : List (List Char)) (h : behindMainWord (wordsSigns P.initOrder.toList) = w3 :: R) (h1 : P.laysLater = false) (h2 : P.bearsReflect = false) (h3 : P.doorFits [] = true) : P.mayEnter = true := by
  unfold Program.mayEnter
  rw [h]
  dsimp only
  rw [strip_cut, h1, h2, h3]
  kernel_rfl
theorem liftsFinal_of (P : Program) (R : List (List Char)) (h : behindMainWord (wordsSigns P.initOrder.toList) = w3 :: R) : P.liftsFinal = false := by
  unfold Program.liftsFinal Program.headLifts
  rw [h]
  dsimp only
  rw [strip_cut]
  kernel_rfl
theorem make_of (P : Program) (R : List (List Char)) (h : behindMainWord (wordsSigns P.initOrder.toList) = w3 :: R) : P.make = some .cut := by
  unfold Program.make
  rw [h]
  kernel_rfl
theorem mayEnter : Try.prog.mayEnter = true := mayEnter_of _ _ behind (by kernel_rfl) (by kernel_rfl) (by kernel_rfl)
theorem liftsFinal : Try.prog.liftsFinal = false := liftsFinal_of _ _ behind
theorem make : Try.prog.make = some .cut := make_of _ _ behind
end Go.Proofs.Ytgfjccegehnjcaa.Head

-- the row of the law FnExactValidPacking
namespace Go.Proofs.Ytgfjccegehnjcaa.fnExactValidPacking
open Go.ChangeShapes Go.WideShapes Go.ChangeAt Go.RowKit Go.Proofs.Ytgfjccegehnjcaa.Q Go.Proofs.YtgfjccegehnjcaaW.PrintWords
open Go.ChangeMaps (open_string shut_string)
set_option linter.unusedVariables false
theorem own : ownKnob Try.prog.godebug = none := by kernel_rfl
theorem laidOut : laidOutB Try.prog = true := by kernel_rfl
set_option maxRecDepth 100000 in
theorem lifted (os : Os) (started : os.Started) (H : Type) (enc : TypeId × Value → H) :
    ReturnsInHanded {} Try.checked os 4 .any (Rows.fnExactValidPackingSpec.pre6 enc Try.prog Try.f4 Rows.fnExactValidPackingRow.domain false) (Rows.fnExactValidPackingSpec.post enc Try.prog Try.f4 false true false false) := by
  refine returnsInHanded_of_change_sized (C := Try.checked) own started (by kernel_rfl) Try.func4
    (ChangeSpec.witness6 (enc := enc) (C := Try.checked) false ⟨#[], #[.slice none 0 0, .int .i64 0, .int .i64 0], []⟩ 8 (by kernel_rfl) (by kernel_rfl) (by kernel_rfl) (by kernel_rfl)) ?_
  intro W base args ds gs before hval0 hW hcnd hsz0 _
  have hval : ∀ (j : Nat) t v, Try.f4.params[j]? = some t → args[j]? = some v → Value.okWide Try.prog W .any base t v := hval0
  have hW' := hW
  obtain ⟨p, q, hA0, hV, rfl, hfz, hnd⟩ := hW
  have hA : DataW.TrodAll enc Try.prog W 0 (fun _ => true) true Try.f4.params.toList args.toList ds p := hA0
  rw [Try.params4] at hA hval
  obtain ⟨v0, vs0, d0, ds0, p0, q0, hargs, rfl, rfl, h0, r0⟩ := trodAll_cons hA
  obtain ⟨v1, vs1, d1, ds1, p1, q1, rfl, rfl, rfl, h1, r1⟩ := trodAll_cons r0
  obtain ⟨v2, vs2, d2, ds2, p2, q2, rfl, rfl, rfl, h2, r2⟩ := trodAll_cons r1
  obtain ⟨rfl, rfl, rfl⟩ := trodAll_nil r2
  obtain rfl : args = #[v0, v1, v2] := by cases args; simp_all
  obtain ⟨rfl, rfl⟩ := trodVars_none hV
  have k0 := h0
  have lt0 : ∀ x ∈ p0, x.block < W.heap.size := by obtain ⟨m, hm⟩ := k0; exact DataW.trod_lt m _ _ _ hm
  obtain ⟨fuel0, hf0⟩ := h0
  obtain ⟨aa0, len0, cap0, rfl⟩ := okWide_slice Try.underlying24 (hval 0 24 v0 rfl rfl)
  obtain ⟨l0, ⟨A0, c0, hcs0, hc0, hr0⟩, hq0⟩ := (opens_slice Try.underlying24 (by kernel_rfl) o71) _ _ _ _ _ _ hf0
  have hcs0' : [Value.slice aa0 len0 cap0] = [.slice A0 l0.length c0] := hcs0
  injection hcs0' with hcs0' _
  injection hcs0' with e10 e20 e30
  subst e10 e20 e30
  obtain ⟨a1, rfl, rfl, rfl, w1⟩ := open_int Try.underlying3 (hval 1 3 v1 rfl rfl) h1
  obtain ⟨a2, rfl, rfl, rfl, w2⟩ := open_int Try.underlying3 (hval 2 3 v2 rfl rfl) h2
  clear hA0 hval0 hsz0
  obtain ⟨k, hh⟩ := Pure.FnExactValidPacking l0 a1 a2 hq0 hr0.2.1 (i64_of _ w1) (i64_of _ w2)
  refine (Q.laws_FnExactValidPacking.calls k _ _ l0 a1 a2 true W hr0 hc0 hh).mono fun e W' hpost => ?_
  obtain ⟨he, bel0⟩ := hpost
  have bel : Below W.heap.size W W' := bel0
  subst he
  exact ⟨_, rfl, _, _, _, [], _, [], hW', trodAll_mk1 (shut_bool Try.underlying4 _), (trodAll_cons_mk (Below.trod laidOut (by kernel_rfl) (of_decide_eq_true (by kernel_rfl)) k0 bel lt0) (trodAll_cons_mk (shut_int Try.underlying3 w1) (trodAll_cons_mk (shut_int Try.underlying3 w2) trodAll_mk0))), rfl, bel.frame _, fun h => by cases h⟩
theorem closed : joinedFacts Try.prog 4 Try.f4 Rows.fnExactValidPackingSpec Rows.fnExactValidPackingRow = true := by
  unfold joinedFacts
  rw [Head.mayEnter, Head.liftsFinal, Head.make]
  simp only [Bool.and_eq_true]
  repeat' apply And.intro
  all_goals first | exact True.intro | (as_aux_lemma => kernel_rfl)
theorem over : Rows.fnExactValidPackingRow.holds Try.pinned (OpenSpec.ofChange Rows.fnExactValidPackingSpec) :=
  OpenClaim.holds_of_wide 4 Try.f4 rfl rfl rfl rfl rfl rfl rfl ⟨rfl, rfl, rfl, rfl, rfl⟩ rfl rfl rfl rfl rfl (by kernel_rfl) Try.func4 closed
    (of_decide_eq_true (by kernel_rfl)) (by unfold Func.isWrapper; first | (rw [if_pos (by decide +kernel)]; kernel_rfl) | (rw [if_neg (by decide +kernel)]; exact ⟨rfl, rfl⟩))
    (fun os started H enc _ => lifted os started H enc)
theorem proved : Rows.FnExactValidPackingSaid := over
#print axioms proved
end Go.Proofs.Ytgfjccegehnjcaa.fnExactValidPacking
namespace Go.Proofs.Ytgfjccegehnjcaa
/-- The row, under a short name, for the claim. -/
theorem fnExactValidPacking_holds : Rows.FnExactValidPackingSaid := fnExactValidPacking.proved
end Go.Proofs.Ytgfjccegehnjcaa
