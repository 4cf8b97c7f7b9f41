/- A part of the proof that the statement FnSimplifyStepsTwiceSaid holds, under no condition of its own: Simple steps stay: the law FnSimplifyStepsTwice over lists of numbers alone. -/
import Derived.Test.YtgfjccegehnjcaaCFnSimplifyStepsTwice1
import Derived.Test.YtgfjccegehnjcaaCFnSimplifyStepsTwice2
import Derived.Test.YtgfjccegehnjcaaCFnSimplifyStepsTwice3
namespace Go.Proofs.Ytgfjccegehnjcaa.Q
open Go.RowKit Go.Proofs.YtgfjccegehnjcaaW.PrintWords Go.Proofs.YtgfjccegehnjcaaW.PrintLast Go.Proofs.YtgfjccegehnjcaaW.PrintMore
attribute [local go_sem] max2_int min2_int max_two min_two max_three min_three max_four min_four
set_option linter.unusedVariables false
set_option linter.unusedSimpArgs false
mutual
def spec_simpler.l0 : Nat → List (S59) → Int → Option ((List (S59)) × Bool)
  | 0, _, _ => none
  | k + 1, x0, x4 => if (wrap64 (x4 + 1)) < (x0.length : Int) then (if 0 ≤ x4 then (if x4 < (x0.length : Int) then (if 0 ≤ (wrap64 (x4 + 1)) then (if ((rd_T59 x0 x4).f0) = ((rd_T59 x0 (wrap64 (x4 + 1))).f0) then (if ((rd_T59 x0 x4).f0) = 0 then (spec_simpler.j1 k x0 x4 (((rd_T59 x0 x4).f0) == ((rd_T59 x0 (wrap64 (x4 + 1))).f0)) true) else (spec_simpler.j1 k x0 x4 (((rd_T59 x0 x4).f0) == ((rd_T59 x0 (wrap64 (x4 + 1))).f0)) (((rd_T59 x0 x4).f0) == 2))) else (spec_simpler.j1 k x0 x4 (((rd_T59 x0 x4).f0) == ((rd_T59 x0 (wrap64 (x4 + 1))).f0)) false)) else (none)) else (none)) else (none)) else (some (x0, false))
def spec_simpler.j1 : Nat → List (S59) → Int → Bool → Bool → Option ((List (S59)) × Bool)
  | 0, _, _, _, _ => none
  | k + 1, x0, x4, x5, x41 => if x41 = true then ((some (([] : List (S59)) : List (S59))).bind fun y76005 => (if 0 ≤ x4 then (if x4 ≤ (x0.length : Int) then ((some (x0.take (x4 : Int).toNat : List (S59))).bind fun y76008 => (if y76005.length + y76008.length < 2199023255552 then ((some (y76005 ++ y76008 : List (S59))).bind fun y76013 => (if 0 ≤ (wrap64 (x4 + 2)) then (if (wrap64 (x4 + 2)) ≤ (x0.length : Int) then ((some (x0.drop ((wrap64 (x4 + 2)) : Int).toNat : List (S59))).bind fun y76016 => (if y76013.length + y76016.length < 2199023255552 then (some ((y76013 ++ y76016), true)) else (none))) else (none)) else (none))) else (none))) else (none)) else (none))) else (if (wrap64 (x4 + 3)) < (x0.length : Int) then (if 0 ≤ x4 then (if x4 < (x0.length : Int) then (if ((rd_T59 x0 x4).f0) = 1 then (if x5 = true then (if 0 ≤ (wrap64 (x4 + 2)) then (if (wrap64 (x4 + 2)) < (x0.length : Int) then (if ((rd_T59 x0 (wrap64 (x4 + 2))).f0) = 1 then (if 0 ≤ (wrap64 (x4 + 3)) then (if ((rd_T59 x0 (wrap64 (x4 + 3))).f0) = 1 then ((some (([] : List (S59)) : List (S59))).bind fun y76027 => (if x4 ≤ (x0.length : Int) then ((some (x0.take (x4 : Int).toNat : List (S59))).bind fun y76030 => (if y76027.length + y76030.length < 2199023255552 then ((some (y76027 ++ y76030 : List (S59))).bind fun y76035 => (if 0 ≤ (wrap64 (x4 + 4)) then (if (wrap64 (x4 + 4)) ≤ (x0.length : Int) then ((some (x0.drop ((wrap64 (x4 + 4)) : Int).toNat : List (S59))).bind fun y76038 => (if y76035.length + y76038.length < 2199023255552 then (some ((y76035 ++ y76038), true)) else (none))) else (none)) else (none))) else (none))) else (none))) else (spec_simpler.l0 k x0 (wrap64 (x4 + 1)))) else (none)) else (spec_simpler.l0 k x0 (wrap64 (x4 + 1)))) else (none)) else (none)) else (spec_simpler.l0 k x0 (wrap64 (x4 + 1)))) else (spec_simpler.l0 k x0 (wrap64 (x4 + 1)))) else (none)) else (none)) else (spec_simpler.l0 k x0 (wrap64 (x4 + 1))))
end
def spec_simpler.f (k : Nat) (l0 : List (S59)) : Option ((List (S59)) × Bool) := spec_simpler.l0 k l0 0
def spec_simpler.T4 : Bool × List (List Nat × List Nat) := (true, [([], []), ([], []), ([0, 1], [0, 1]), ([2], [2]), ([3], [3]), ([], []), ([], []), ([6], [6]), ([5, 7], [5, 7]), ([8], [8]), ([9], [9]), ([4, 10], [4, 10]), ([11, 0, 1, 2, 3, 4, 5, 6, 7, 8, 9, 10, 11], [11])])
def spec_simpler.B4 : List Nat := [0, 0, 3, 7, 15, 0, 0, 64, 224, 480, 992, 2047, 4095]
theorem spec_simpler.tab4 : rtab .any (opsOf Try.f75 4) = spec_simpler.T4 := by kernel_rfl
theorem spec_simpler.bits4 : waitsOk spec_simpler.T4.2 spec_simpler.B4 = true := by kernel_rfl
def spec_simpler.T6 : Bool × List (List Nat × List Nat) := (true, [([], []), ([], []), ([], []), ([1, 2], [1, 2]), ([0, 3], [0, 3]), ([], []), ([], []), ([6], [6]), ([5, 7], [5, 7]), ([4, 8, 4], [4, 8]), ([9, 9, 0, 1, 2, 3, 4, 5, 6, 7, 8, 9], [9]), ([10, 0, 1, 2, 3, 4, 5, 6, 7, 8, 9, 10], [])])
def spec_simpler.B6 : List Nat := [0, 0, 0, 6, 15, 0, 0, 64, 224, 511, 1023, 2047]
theorem spec_simpler.tab6 : rtab .any (opsOf Try.f75 6) = spec_simpler.T6 := by kernel_rfl
theorem spec_simpler.bits6 : waitsOk spec_simpler.T6.2 spec_simpler.B6 = true := by kernel_rfl
def spec_simpler.T8 : Bool × List (List Nat × List Nat) := (true, [([], []), ([], []), ([], []), ([1, 2], [1, 2]), ([0, 3], [0, 3]), ([], []), ([], []), ([6], [6]), ([5, 7], [5, 7]), ([4, 8, 4], [4, 8]), ([9, 9, 0, 1, 2, 3, 4, 5, 6, 7, 8, 9], [9]), ([10, 0, 1, 2, 3, 4, 5, 6, 7, 8, 9, 10], [])])
def spec_simpler.B8 : List Nat := [0, 0, 0, 6, 15, 0, 0, 64, 224, 511, 1023, 2047]
theorem spec_simpler.tab8 : rtab .any (opsOf Try.f75 8) = spec_simpler.T8 := by kernel_rfl
theorem spec_simpler.bits8 : waitsOk spec_simpler.T8.2 spec_simpler.B8 = true := by kernel_rfl
set_option maxHeartbeats 8000000 in
set_option maxRecDepth 100000 in
theorem spec_simpler.calls (k : Nat) (P0_ : Nat → Prop) (A0 : Option Addr) (c0 : Nat) (l0 : List (S59)) (r1 : List (S59)) (r2 : Bool) (w : World) (hs0 : Kd.V k59 59 w w.heap.size (fun k_ => P0_ k_) (.slice A0 l0.length c0) l0) (h : spec_simpler.f k l0 = some (r1, r2)) :
    Calls Try.prog 75 #[.slice A0 l0.length c0] w fun e w' => ∃ v0_ : Value, e = .returned (.tuple #[v0_, .bool r2]) ∧ Kd.V k59 59 w' w.heap.size (fun k_ => (P0_ k_ ∨ w.heap.size ≤ k_)) v0_ r1 ∧ Below w.heap.size w w' := by
  have HO0 := Aside0.mk (show Kd.V k59 59 w w.heap.size (fun k_ => (P0_ k_ ∨ w.heap.size ≤ k_)) (.slice A0 l0.length c0) l0 from Kd.V_mono hs0 (fun k_ hk => .inl hk))
  have HB := Aside0.mk (Below.refl w.heap.size w)
  have H : (spec_simpler.l0 k l0 0) = some (r1, r2) := h
  clear h
  have H' := Aside0.mk H
  clear H
  go_enter Try.func75, Try.ntmps75
  go_wp2
  go_loopg [4] k (fun kq v4 w' => ∃ (x4_1 : Int), v4 = .int .i64 x4_1 ∧ Aside0 (spec_simpler.l0 kq l0 x4_1 = some (r1, r2)) ∧ Aside0 (kq ≤ k) ∧ Aside0 (Kd.V k59 59 w' w.heap.size (fun k_ => (P0_ k_ ∨ w.heap.size ≤ k_)) (.slice A0 l0.length c0) l0) ∧ Aside0 (Below w.heap.size w w'))
  case atStart => exact ⟨(0), (by first | rfl | (simp; done) | (simp [*]; done)), H', ⟨Nat.le_refl _⟩, ⟨by (with_reducible repeat (first | apply Kd.V_alloc | apply Kd.V_drewN | apply Kd.V_drew)); exact HO0.out⟩, ⟨by repeat (first | (with_reducible first | exact HB.out | apply below_alloc | apply pw_below_drewN | apply below_drew1) | exact HB.out)⟩⟩
  case round =>
    clear H'
    obtain ⟨x4_1, rfl, HA, HK1, HO_0, HB⟩ := hrel
    cases gk with
    | zero => exact absurd HA.out (by simp [spec_simpler.l0])
    | succ k1 =>
      have H := HA.out
      clear HA
      simp only [spec_simpler.l0] at H
      by_cases c2 : (wrap64 (x4_1 + 1)) < (l0.length : Int)
      · rw [if_pos c2] at H
        have c2b0 : decide ((wrap64 (x4_1 + 1)) < (l0.length : Int)) = true := decide_eq_true c2
        clear c2
        by_cases c3 : 0 ≤ x4_1
        · rw [if_pos c3] at H
          have c3b0 : decide (0 ≤ x4_1) = true := decide_eq_true c3
          clear c3
          by_cases c4 : x4_1 < (l0.length : Int)
          · rw [if_pos c4] at H
            have c4b0 : decide (x4_1 < (l0.length : Int)) = true := decide_eq_true c4
            clear c4
            obtain ⟨ji5, hji5⟩ : ∃ j_ : Int, (wrap64 (x4_1 + 1)) = j_ := ⟨_, rfl⟩
            replace H : (if 0 ≤ (ji5) then (if ((rd_T59 l0 x4_1).f0) = ((rd_T59 l0 (ji5)).f0) then (if ((rd_T59 l0 x4_1).f0) = 0 then (spec_simpler.j1 k1 l0 x4_1 (((rd_T59 l0 x4_1).f0) == ((rd_T59 l0 (ji5)).f0)) true) else (spec_simpler.j1 k1 l0 x4_1 (((rd_T59 l0 x4_1).f0) == ((rd_T59 l0 (ji5)).f0)) (((rd_T59 l0 x4_1).f0) == 2))) else (spec_simpler.j1 k1 l0 x4_1 (((rd_T59 l0 x4_1).f0) == ((rd_T59 l0 (ji5)).f0)) false)) else (none)) = some (r1, r2) := by first | (rw [hji5] at H; exact H) | (simp only [hji5] at H ⊢; exact H)
            (try rw [hji5] at c2b0)
            have hji5w : (IntKind.i64.wrap (x4_1 + 1)) = ji5 := (i64_w _).trans hji5
            by_cases c6 : 0 ≤ (ji5)
            · rw [if_pos c6] at H
              have c6b0 : decide (0 ≤ (ji5)) = true := decide_eq_true c6
              clear c6
              have HC7 := Aside0.mk H
              clear H
              try go_wp2
              have n0_ := Aside0.mk (Kd.V_drew HO_0.out)
              have n1_ := Aside0.mk (below_drew1 HB.out)
              clear HO_0
              clear HB
              have HO_0 := n0_
              have HB := n1_
              clear n0_ n1_
              have p76001 : 0 ≤ (x4_1 : Int) := of_decide_eq_true (by first | (with_reducible assumption) | assumption)
              have q76001 : x4_1 < (l0.length : Int) := of_decide_eq_true (by first | (with_reducible assumption) | assumption)
              obtain ⟨ad76001, A76001_5, c76001_5, e76001, hx76001_0, hx76001_1, hx76001_2, hx76001_3, hx76001_4, hx76001_5, hl76001_5, hi76001_5⟩ := at_T59 (Kd.V_reads' HO_0.out).2.2 x4_1 p76001 q76001
              cases e76001
              obtain ⟨ce76001, hce76001, hMe76001, hcc76001⟩ := Kd.V_get HO_0.out z59 x4_1 p76001 (by first | exact q76001 | exact of_decide_eq_true (by first | (with_reducible assumption) | assumption) | (have e_ := (Kd.V_reads' HO_0.out).1; omega))
              obtain ⟨ua76001_5, uc76001_5, rfl, ul76001_5, ge76001_5⟩ := k59_openF hMe76001
              have hv76001_5 := hcc76001 5 _ rfl
              rw [add_field _ _ 5 (by omega)] at hv76001_5
              replace hv76001_5 := Option.some.inj (hv76001_5.symm.trans hx76001_5)
              injection hv76001_5 with hva_ hvn_ hvc_
              rw [hva_] at ge76001_5
              rw [hvc_] at ul76001_5
              have HL76001_5 := Aside0.mk (show Kd.V (Kd.int .i64) 3 _ w.heap.size _ _ ((rd_T59 l0 x4_1).f2) from Kd.V_mk ul76001_5 ge76001_5)
              clear hva_ hvn_ hvc_ ge76001_5 ul76001_5
              clear hcc76001 hce76001
              have HR76001_5 := Aside0.mk hi76001_5
              have HC76001_5 := Aside0.mk hl76001_5
              clear hi76001_5 hl76001_5
              replace p76001 := eq_true p76001
              replace q76001 := eq_true q76001
              have p76002 : 0 ≤ ((ji5) : Int) := of_decide_eq_true (by first | (with_reducible assumption) | assumption)
              have q76002 : (ji5) < (l0.length : Int) := of_decide_eq_true (by first | (with_reducible assumption) | assumption)
              obtain ⟨ad76002, A76002_5, c76002_5, e76002, hx76002_0, hx76002_1, hx76002_2, hx76002_3, hx76002_4, hx76002_5, hl76002_5, hi76002_5⟩ := at_T59 (Kd.V_reads' HO_0.out).2.2 (ji5) p76002 q76002
              obtain rfl : ad76001 = ad76002 := (by injection e76002)
              obtain ⟨ce76002, hce76002, hMe76002, hcc76002⟩ := Kd.V_get HO_0.out z59 (ji5) p76002 (by first | exact q76002 | exact of_decide_eq_true (by first | (with_reducible assumption) | assumption) | (have e_ := (Kd.V_reads' HO_0.out).1; omega))
              obtain ⟨ua76002_5, uc76002_5, rfl, ul76002_5, ge76002_5⟩ := k59_openF hMe76002
              have hv76002_5 := hcc76002 5 _ rfl
              rw [add_field _ _ 5 (by omega)] at hv76002_5
              replace hv76002_5 := Option.some.inj (hv76002_5.symm.trans hx76002_5)
              injection hv76002_5 with hva_ hvn_ hvc_
              rw [hva_] at ge76002_5
              rw [hvc_] at ul76002_5
              have HL76002_5 := Aside0.mk (show Kd.V (Kd.int .i64) 3 _ w.heap.size _ _ ((rd_T59 l0 (ji5)).f2) from Kd.V_mk ul76002_5 ge76002_5)
              clear hva_ hvn_ hvc_ ge76002_5 ul76002_5
              clear hcc76002 hce76002
              have HR76002_5 := Aside0.mk hi76002_5
              have HC76002_5 := Aside0.mk hl76002_5
              clear hi76002_5 hl76002_5
              replace p76002 := eq_true p76002
              replace q76002 := eq_true q76002
              refine start_ (n := 13) (S := fun w' => w'.cell? (ad76001.add ((x4_1).toNat * 6)) = some (.int .i64 ((rd_T59 l0 x4_1).f0)) ∧ w'.cell? ⟨(ad76001.add ((x4_1).toNat * 6)).block, (ad76001.add ((x4_1).toNat * 6)).off + 1, none⟩ = some (.int .i64 ((rd_T59 l0 x4_1).f1.f0)) ∧ w'.cell? ⟨(ad76001.add ((x4_1).toNat * 6)).block, (ad76001.add ((x4_1).toNat * 6)).off + 2, none⟩ = some (.int .i64 ((rd_T59 l0 x4_1).f1.f1)) ∧ w'.cell? ⟨(ad76001.add ((x4_1).toNat * 6)).block, (ad76001.add ((x4_1).toNat * 6)).off + 3, none⟩ = some (.int .i64 ((rd_T59 l0 x4_1).f1.f2)) ∧ w'.cell? ⟨(ad76001.add ((x4_1).toNat * 6)).block, (ad76001.add ((x4_1).toNat * 6)).off + 4, none⟩ = some (.int .i64 ((rd_T59 l0 x4_1).f1.f3)) ∧ w'.cell? ⟨(ad76001.add ((x4_1).toNat * 6)).block, (ad76001.add ((x4_1).toNat * 6)).off + 5, none⟩ = some (.slice A76001_5 ((rd_T59 l0 x4_1).f2).length c76001_5) ∧ w'.cell? (ad76001.add (((ji5)).toNat * 6)) = some (.int .i64 ((rd_T59 l0 (ji5)).f0)) ∧ w'.cell? ⟨(ad76001.add (((ji5)).toNat * 6)).block, (ad76001.add (((ji5)).toNat * 6)).off + 1, none⟩ = some (.int .i64 ((rd_T59 l0 (ji5)).f1.f0)) ∧ w'.cell? ⟨(ad76001.add (((ji5)).toNat * 6)).block, (ad76001.add (((ji5)).toNat * 6)).off + 2, none⟩ = some (.int .i64 ((rd_T59 l0 (ji5)).f1.f1)) ∧ w'.cell? ⟨(ad76001.add (((ji5)).toNat * 6)).block, (ad76001.add (((ji5)).toNat * 6)).off + 3, none⟩ = some (.int .i64 ((rd_T59 l0 (ji5)).f1.f2)) ∧ w'.cell? ⟨(ad76001.add (((ji5)).toNat * 6)).block, (ad76001.add (((ji5)).toNat * 6)).off + 4, none⟩ = some (.int .i64 ((rd_T59 l0 (ji5)).f1.f3)) ∧ w'.cell? ⟨(ad76001.add (((ji5)).toNat * 6)).block, (ad76001.add (((ji5)).toNat * 6)).off + 5, none⟩ = some (.slice A76002_5 ((rd_T59 l0 (ji5)).f2).length c76002_5)) (ds := []) #[false, false, false, false, false, false, false, false, false, false, false, false, false] (by kernel_rfl) rfl rfl ⟨hx76001_0, hx76001_1, hx76001_2, hx76001_3, hx76001_4, hx76001_5, hx76002_0, hx76002_1, hx76002_2, hx76002_3, hx76002_4, hx76002_5⟩ (fun hHeld => ?_); refine with_tabW spec_simpler.tab4 spec_simpler.bits4 (fun HT_ HW_ => ?_)
              generalize wr.drew = w8 at HO_0 HB HL76001_5 HL76002_5 HR76001_5 HR76002_5 hx76001_0 hx76001_1 hx76001_2 hx76001_3 hx76001_4 hx76001_5 hx76002_0 hx76002_1 hx76002_2 hx76002_3 hx76002_4 hx76002_5 hHeld ⊢
              refine pure_ (i := 0) (N := some 13) (v := ?_) (a' := ?_) #[true, false, false, false, false, false, false, false, false, false, false, false, false] rfl rfl (any_of HT_.out (by kernel_rfl)) (fun _ _ _ h => h) (Or.inl ⟨by rfl, ?_⟩) ?_ ?_
              rotate_left
              · intro w'
                go_simp
                with_reducible rfl
              rotate_left
              · simp only [Act.put, List.setIfInBounds_toArray, List.set_cons_zero, List.set_cons_succ, i64_w, i32_w]
                rfl
              refine pure_ (i := 1) (N := some 14) (v := ?_) (a' := ?_) #[true, true, false, false, false, false, false, false, false, false, false, false, false] rfl rfl (any_of HT_.out (by kernel_rfl)) (fun _ _ _ h => h) (Or.inl ⟨by rfl, ?_⟩) ?_ ?_
              rotate_left
              · intro w'
                go_simp
                with_reducible rfl
              rotate_left
              · simp only [Act.put, List.setIfInBounds_toArray, List.set_cons_zero, List.set_cons_succ, i64_w, i32_w]
                rfl
              refine pure_ (i := 2) (N := some 15) (v := ?_) (a' := ?_) #[true, true, true, false, false, false, false, false, false, false, false, false, false] rfl rfl (any_of HT_.out (by kernel_rfl)) (fun _ _ _ h => h) (Or.inl ⟨by rfl, ?_⟩) ?_ ?_
              rotate_left
              · intro w'
                go_simp
                with_reducible rfl
              rotate_left
              · simp only [Act.put, List.setIfInBounds_toArray, List.set_cons_zero, List.set_cons_succ, i64_w, i32_w]
                rfl
              refine pure_ (i := 3) (N := some 16) (v := ?_) (a' := ?_) #[true, true, true, true, false, false, false, false, false, false, false, false, false] rfl rfl (any_of HT_.out (by kernel_rfl)) (fun _ _ _ h => h) (Or.inl ⟨by rfl, ?_⟩) ?_ ?_
              rotate_left
              · intro w'
                go_simp
                with_reducible rfl
              rotate_left
              · simp only [Act.put, List.setIfInBounds_toArray, List.set_cons_zero, List.set_cons_succ, i64_w, i32_w]
                rfl
              refine pure_ (i := 5) (N := some 18) (v := ?_) (a' := ?_) #[true, true, true, true, false, true, false, false, false, false, false, false, false] rfl rfl (any_of HT_.out (by kernel_rfl)) (fun _ _ _ h => h) (Or.inl ⟨by rfl, ?_⟩) ?_ ?_
              rotate_left
              · intro w'
                go_simp
                with_reducible rfl
              rotate_left
              · simp only [Act.put, List.setIfInBounds_toArray, List.set_cons_zero, List.set_cons_succ, i64_w, i32_w]
                rfl
              refine pure_ (i := 6) (N := some 19) (v := ?_) (a' := ?_) #[true, true, true, true, false, true, true, false, false, false, false, false, false] rfl rfl (any_of HT_.out (by kernel_rfl)) (fun _ _ _ h => h) (Or.inl ⟨by rfl, ?_⟩) ?_ ?_
              rotate_left
              · intro w'
                go_simp
                with_reducible rfl
              rotate_left
              · simp only [Act.put, List.setIfInBounds_toArray, List.set_cons_zero, List.set_cons_succ, i64_w, i32_w]
                rfl
              refine pure_ (i := 7) (N := some 20) (v := ?_) (a' := ?_) #[true, true, true, true, false, true, true, true, false, false, false, false, false] rfl rfl (any_of HT_.out (by kernel_rfl)) (fun _ _ _ h => h) (Or.inl ⟨by rfl, ?_⟩) ?_ ?_
              rotate_left
              · intro w'
                go_simp
                with_reducible rfl
              rotate_left
              · simp only [Act.put, List.setIfInBounds_toArray, List.set_cons_zero, List.set_cons_succ, i64_w, i32_w]
                rfl
              refine pure_ (i := 8) (N := some 21) (v := ?_) (a' := ?_) #[true, true, true, true, false, true, true, true, true, false, false, false, false] rfl rfl (any_of HT_.out (by kernel_rfl)) (fun _ _ _ h => h) (Or.inl ⟨by rfl, ?_⟩) ?_ ?_
              rotate_left
              · intro w'
                go_simp
                with_reducible rfl
              rotate_left
              · simp only [Act.put, List.setIfInBounds_toArray, List.set_cons_zero, List.set_cons_succ, i64_w, i32_w]
                rfl
              refine pure_ (i := 9) (N := some 22) (v := ?_) (a' := ?_) #[true, true, true, true, false, true, true, true, true, true, false, false, false] rfl rfl (any_of HT_.out (by kernel_rfl)) (fun _ _ _ h => h) (Or.inl ⟨by rfl, ?_⟩) ?_ ?_
              rotate_left
              · intro w'
                go_simp
                with_reducible rfl
              rotate_left
              · simp only [Act.put, List.setIfInBounds_toArray, List.set_cons_zero, List.set_cons_succ, i64_w, i32_w]
                rfl
              refine take_ (i := 4) (N := some 17) (v := ?_) (a' := ?_) #[true, true, true, true, true, true, true, true, true, true, false, false, false] rfl rfl (take_ofW HT_.out HW_.out (by kernel_rfl)) (fun _ _ _ h => h) (Or.inl ⟨by rfl, ?_⟩) hHeld ?_ ?_
              rotate_left
              · rintro w' ⟨s0, s1, s2, s3, s4, s5, s6, s7, s8, s9, s10, s11⟩
                go_simp
                with_reducible rfl
              rotate_left
              · simp only [Act.put, List.setIfInBounds_toArray, List.set_cons_zero, List.set_cons_succ, i64_w, i32_w]
                rfl
              refine take_ (i := 10) (N := some 23) (v := ?_) (a' := ?_) #[true, true, true, true, true, true, true, true, true, true, true, false, false] rfl rfl (take_ofW HT_.out HW_.out (by kernel_rfl)) (fun _ _ _ h => h) (Or.inl ⟨by rfl, ?_⟩) hHeld ?_ ?_
              rotate_left
              · rintro w' ⟨s0, s1, s2, s3, s4, s5, s6, s7, s8, s9, s10, s11⟩
                go_simp
                with_reducible rfl
              rotate_left
              · simp only [Act.put, List.setIfInBounds_toArray, List.set_cons_zero, List.set_cons_succ, i64_w, i32_w]
                rfl
              refine pure_ (i := 11) (N := some 24) (v := ?_) (a' := ?_) #[true, true, true, true, true, true, true, true, true, true, true, true, false] rfl rfl (any_of HT_.out (by kernel_rfl)) (fun _ _ _ h => h) (Or.inl ⟨by rfl, ?_⟩) ?_ ?_
              rotate_left
              · intro w'
                go_simp
                with_reducible rfl
              rotate_left
              · simp only [Act.put, List.setIfInBounds_toArray, List.set_cons_zero, List.set_cons_succ, i64_w, i32_w]
                rfl
              refine pure_ (i := 12) (N := some 5) (v := ?_) (a' := ?_) #[true, true, true, true, true, true, true, true, true, true, true, true, true] rfl rfl (any_of HT_.out (by kernel_rfl)) (fun _ _ _ h => h) (Or.inl ⟨by rfl, ?_⟩) ?_ ?_
              rotate_left
              · intro w'
                go_simp
                with_reducible rfl
              rotate_left
              · simp only [Act.put, List.setIfInBounds_toArray, List.set_cons_zero, List.set_cons_succ, i64_w, i32_w]
                rfl
              refine done_ (done_of HT_.out (by kernel_rfl)) ?_
              go_upto_region 5 with (fail)
              go_cut [5, 41] (fun v5 v41 wc => ∃ (kq : Nat) (x41_6 : Bool), v5 = .bool (((rd_T59 l0 x4_1).f0) == ((rd_T59 l0 (ji5)).f0)) ∧ v41 = .bool x41_6 ∧ Aside0 (spec_simpler.j1 kq l0 x4_1 (((rd_T59 l0 x4_1).f0) == ((rd_T59 l0 (ji5)).f0)) x41_6 = some (r1, r2)) ∧ Aside0 (kq ≤ k1) ∧ Aside0 (Kd.V k59 59 wc w.heap.size (fun k_ => (P0_ k_ ∨ w.heap.size ≤ k_)) (.slice (some ad76001) l0.length c0) l0) ∧ Aside0 (Kd.C (Kd.int .i64) wc A76001_5 ((rd_T59 l0 x4_1).f2).length ((rd_T59 l0 x4_1).f2)) ∧ Aside0 (Kd.C (Kd.int .i64) wc A76002_5 ((rd_T59 l0 (ji5)).f2).length ((rd_T59 l0 (ji5)).f2)) ∧ Aside0 (Below w.heap.size w wc))
              case first =>
                have H := HC7.out
                clear HC7
                by_cases c9 : ((rd_T59 l0 x4_1).f0) = ((rd_T59 l0 (ji5)).f0)
                · rw [if_pos c9] at H
                  have c9b0 : (((rd_T59 l0 x4_1).f0) == ((rd_T59 l0 (ji5)).f0)) = true := beq_iff_eq.mpr c9
                  have c9b1 : (((rd_T59 l0 x4_1).f0) != ((rd_T59 l0 (ji5)).f0)) = false := bne_eq_false_iff_eq.mpr c9
                  clear c9
                  (first | rw [c9b0] | (simp only [i64_w, i32_w]; rw [c9b0]) | skip)
                  by_cases c10 : ((rd_T59 l0 x4_1).f0) = 0
                  · rw [if_pos c10] at H
                    have c10b0 : (((rd_T59 l0 x4_1).f0) == 0) = true := beq_iff_eq.mpr c10
                    have c10b1 : (((rd_T59 l0 x4_1).f0) != 0) = false := bne_eq_false_iff_eq.mpr c10
                    clear c10
                    have H' := Aside0.mk H
                    clear H
                    have p76003 : 0 ≤ (x4_1 : Int) := of_decide_eq_true (by first | (with_reducible assumption) | assumption)
                    have q76003 : x4_1 < (l0.length : Int) := of_decide_eq_true (by first | (with_reducible assumption) | assumption)
                    obtain ⟨ad76003, A76003_5, c76003_5, e76003, hx76003_0, hx76003_1, hx76003_2, hx76003_3, hx76003_4, hx76003_5, hl76003_5, hi76003_5⟩ := at_T59 (Kd.V_reads' HO_0.out).2.2 x4_1 p76003 q76003
                    obtain rfl : ad76001 = ad76003 := (by injection e76003)
                    obtain ⟨ce76003, hce76003, hMe76003, hcc76003⟩ := Kd.V_get HO_0.out z59 x4_1 p76003 (by first | exact q76003 | exact of_decide_eq_true (by first | (with_reducible assumption) | assumption) | (have e_ := (Kd.V_reads' HO_0.out).1; omega))
                    obtain ⟨ua76003_5, uc76003_5, rfl, ul76003_5, ge76003_5⟩ := k59_openF hMe76003
                    have hv76003_5 := hcc76003 5 _ rfl
                    rw [add_field _ _ 5 (by omega)] at hv76003_5
                    replace hv76003_5 := Option.some.inj (hv76003_5.symm.trans hx76003_5)
                    injection hv76003_5 with hva_ hvn_ hvc_
                    rw [hva_] at ge76003_5
                    rw [hvc_] at ul76003_5
                    have HL76003_5 := Aside0.mk (show Kd.V (Kd.int .i64) 3 _ w.heap.size _ _ ((rd_T59 l0 x4_1).f2) from Kd.V_mk ul76003_5 ge76003_5)
                    clear hva_ hvn_ hvc_ ge76003_5 ul76003_5
                    clear hcc76003 hce76003
                    have HR76003_5 := Aside0.mk hi76003_5
                    have HC76003_5 := Aside0.mk hl76003_5
                    clear hi76003_5 hl76003_5
                    replace p76003 := eq_true p76003
                    replace q76003 := eq_true q76003
                    go_wp2
                    go_meet
                    case rel => exact ⟨_, (true), (by first | rfl | (simp; done) | (simp [*]; done)), (by first | rfl | (simp; done) | (simp [*]; done)), H', ⟨by have := HK1.out; first | omega | exact Nat.le_refl _⟩, ⟨by (with_reducible repeat (first | apply Kd.V_alloc | apply Kd.V_drewN | apply Kd.V_drew)); exact HO_0.out⟩, ⟨by repeat (first | (with_reducible exact HR76001_5.out) | (with_reducible refine Kd.C_alloc ?_ _) | (with_reducible refine Kd.C_drewN ?_ _) | (with_reducible refine Kd.C_drew ?_) | exact HR76001_5.out)⟩, ⟨by repeat (first | (with_reducible exact HR76002_5.out) | (with_reducible refine Kd.C_alloc ?_ _) | (with_reducible refine Kd.C_drewN ?_ _) | (with_reducible refine Kd.C_drew ?_) | exact HR76002_5.out)⟩, ⟨by repeat (first | (with_reducible first | exact HB.out | apply below_alloc | apply pw_below_drewN | apply below_drew1) | exact HB.out)⟩⟩
                  · rw [if_neg c10] at H
                    have c10b0 : (((rd_T59 l0 x4_1).f0) == 0) = false := beq_eq_false_iff_ne.mpr c10
                    have c10b1 : (((rd_T59 l0 x4_1).f0) != 0) = true := bne_iff_ne.mpr c10
                    have H' := Aside0.mk H
                    clear H
                    have p76003 : 0 ≤ (x4_1 : Int) := of_decide_eq_true (by first | (with_reducible assumption) | assumption)
                    have q76003 : x4_1 < (l0.length : Int) := of_decide_eq_true (by first | (with_reducible assumption) | assumption)
                    obtain ⟨ad76003, A76003_5, c76003_5, e76003, hx76003_0, hx76003_1, hx76003_2, hx76003_3, hx76003_4, hx76003_5, hl76003_5, hi76003_5⟩ := at_T59 (Kd.V_reads' HO_0.out).2.2 x4_1 p76003 q76003
                    obtain rfl : ad76001 = ad76003 := (by injection e76003)
                    obtain ⟨ce76003, hce76003, hMe76003, hcc76003⟩ := Kd.V_get HO_0.out z59 x4_1 p76003 (by first | exact q76003 | exact of_decide_eq_true (by first | (with_reducible assumption) | assumption) | (have e_ := (Kd.V_reads' HO_0.out).1; omega))
                    obtain ⟨ua76003_5, uc76003_5, rfl, ul76003_5, ge76003_5⟩ := k59_openF hMe76003
                    have hv76003_5 := hcc76003 5 _ rfl
                    rw [add_field _ _ 5 (by omega)] at hv76003_5
                    replace hv76003_5 := Option.some.inj (hv76003_5.symm.trans hx76003_5)
                    injection hv76003_5 with hva_ hvn_ hvc_
                    rw [hva_] at ge76003_5
                    rw [hvc_] at ul76003_5
                    have HL76003_5 := Aside0.mk (show Kd.V (Kd.int .i64) 3 _ w.heap.size _ _ ((rd_T59 l0 x4_1).f2) from Kd.V_mk ul76003_5 ge76003_5)
                    clear hva_ hvn_ hvc_ ge76003_5 ul76003_5
                    clear hcc76003 hce76003
                    have HR76003_5 := Aside0.mk hi76003_5
                    have HC76003_5 := Aside0.mk hl76003_5
                    clear hi76003_5 hl76003_5
                    replace p76003 := eq_true p76003
                    replace q76003 := eq_true q76003
                    have p76004 : 0 ≤ (x4_1 : Int) := of_decide_eq_true (by first | (with_reducible assumption) | assumption)
                    have q76004 : x4_1 < (l0.length : Int) := of_decide_eq_true (by first | (with_reducible assumption) | assumption)
                    obtain ⟨ad76004, A76004_5, c76004_5, e76004, hx76004_0, hx76004_1, hx76004_2, hx76004_3, hx76004_4, hx76004_5, hl76004_5, hi76004_5⟩ := at_T59 (Kd.V_reads' HO_0.out).2.2 x4_1 p76004 q76004
                    obtain rfl : ad76001 = ad76004 := (by injection e76004)
                    obtain ⟨ce76004, hce76004, hMe76004, hcc76004⟩ := Kd.V_get HO_0.out z59 x4_1 p76004 (by first | exact q76004 | exact of_decide_eq_true (by first | (with_reducible assumption) | assumption) | (have e_ := (Kd.V_reads' HO_0.out).1; omega))
                    obtain ⟨ua76004_5, uc76004_5, rfl, ul76004_5, ge76004_5⟩ := k59_openF hMe76004
                    have hv76004_5 := hcc76004 5 _ rfl
                    rw [add_field _ _ 5 (by omega)] at hv76004_5
                    replace hv76004_5 := Option.some.inj (hv76004_5.symm.trans hx76004_5)
                    injection hv76004_5 with hva_ hvn_ hvc_
                    rw [hva_] at ge76004_5
                    rw [hvc_] at ul76004_5
                    have HL76004_5 := Aside0.mk (show Kd.V (Kd.int .i64) 3 _ w.heap.size _ _ ((rd_T59 l0 x4_1).f2) from Kd.V_mk ul76004_5 ge76004_5)
                    clear hva_ hvn_ hvc_ ge76004_5 ul76004_5
                    clear hcc76004 hce76004
                    have HR76004_5 := Aside0.mk hi76004_5
                    have HC76004_5 := Aside0.mk hl76004_5
                    clear hi76004_5 hl76004_5
                    replace p76004 := eq_true p76004
                    replace q76004 := eq_true q76004
                    have ea_ := Option.some.inj (hx76003_5.symm.trans hx76004_5)
                    injection ea_ with ea_ en_ ec_
                    subst ea_
                    subst ec_
                    clear en_
                    go_wp2
                    go_meet
                    case rel => exact ⟨_, ((((rd_T59 l0 x4_1).f0) == 2)), (by first | rfl | (simp; done) | (simp [*]; done)), (by first | rfl | (simp; done) | (simp [*]; done)), H', ⟨by have := HK1.out; first | omega | exact Nat.le_refl _⟩, ⟨by (with_reducible repeat (first | apply Kd.V_alloc | apply Kd.V_drewN | apply Kd.V_drew)); exact HO_0.out⟩, ⟨by repeat (first | (with_reducible exact HR76001_5.out) | (with_reducible refine Kd.C_alloc ?_ _) | (with_reducible refine Kd.C_drewN ?_ _) | (with_reducible refine Kd.C_drew ?_) | exact HR76001_5.out)⟩, ⟨by repeat (first | (with_reducible exact HR76002_5.out) | (with_reducible refine Kd.C_alloc ?_ _) | (with_reducible refine Kd.C_drewN ?_ _) | (with_reducible refine Kd.C_drew ?_) | exact HR76002_5.out)⟩, ⟨by repeat (first | (with_reducible first | exact HB.out | apply below_alloc | apply pw_below_drewN | apply below_drew1) | exact HB.out)⟩⟩
                · rw [if_neg c9] at H
                  have c9b0 : (((rd_T59 l0 x4_1).f0) == ((rd_T59 l0 (ji5)).f0)) = false := beq_eq_false_iff_ne.mpr c9
                  have c9b1 : (((rd_T59 l0 x4_1).f0) != ((rd_T59 l0 (ji5)).f0)) = true := bne_iff_ne.mpr c9
                  (first | rw [c9b0] | (simp only [i64_w, i32_w]; rw [c9b0]) | skip)
                  have H' := Aside0.mk H
                  clear H
                  go_wp2
                  go_meet
                  case rel => exact ⟨_, (false), (by first | rfl | (simp; done) | (simp [*]; done)), (by first | rfl | (simp; done) | (simp [*]; done)), H', ⟨by have := HK1.out; first | omega | exact Nat.le_refl _⟩, ⟨by (with_reducible repeat (first | apply Kd.V_alloc | apply Kd.V_drewN | apply Kd.V_drew)); exact HO_0.out⟩, ⟨by repeat (first | (with_reducible exact HR76001_5.out) | (with_reducible refine Kd.C_alloc ?_ _) | (with_reducible refine Kd.C_drewN ?_ _) | (with_reducible refine Kd.C_drew ?_) | exact HR76001_5.out)⟩, ⟨by repeat (first | (with_reducible exact HR76002_5.out) | (with_reducible refine Kd.C_alloc ?_ _) | (with_reducible refine Kd.C_drewN ?_ _) | (with_reducible refine Kd.C_drew ?_) | exact HR76002_5.out)⟩, ⟨by repeat (first | (with_reducible first | exact HB.out | apply below_alloc | apply pw_below_drewN | apply below_drew1) | exact HB.out)⟩⟩
              case rest =>
                clear HC7
                try clear c1
                try clear c2
                try clear c2b0
                try clear p2
                try clear c3
                try clear c3b0
                try clear c4
                try clear c4b0
                try clear c6
                try clear c6b0
                try clear p6
                try clear c7
                try clear p7
                try clear q7
                try clear hx7
                try clear c9
                try clear c9b0
                try clear c9b1
                try clear c10
                try clear c10b0
                try clear c10b1
                try clear hx76001_0
                try clear hx76001_1
                try clear hx76001_2
                try clear hx76001_3
                try clear hx76001_4
                try clear hx76001_5
                try clear hx76002_0
                try clear hx76002_1
                try clear hx76002_2
                try clear hx76002_3
                try clear hx76002_4
                try clear hx76002_5
                try clear hx76003_0
                try clear hx76003_1
                try clear hx76003_2
                try clear hx76003_3
                try clear hx76003_4
                try clear hx76003_5
                try clear hx76004_0
                try clear hx76004_1
                try clear hx76004_2
                try clear hx76004_3
                try clear hx76004_4
                try clear hx76004_5
                try clear p76001
                try clear p76002
                try clear p76003
                try clear p76004
                try clear q76001
                try clear q76002
                try clear q76003
                try clear q76004
                obtain ⟨kq, x41_6, rfl, rfl, HA, HJ6, HO_0, HR76001_5, HR76002_5, HB⟩ := hcut
                cases kq with
                | zero => exact absurd HA.out (by simp [spec_simpler.j1])
                | succ kj6 =>
                  have H := HA.out
                  clear HA
                  simp only [spec_simpler.j1] at H
                  by_cases c11 : x41_6 = true
                  · subst c11
                    have H1 : ((some (([] : List (S59)) : List (S59))).bind fun y76005 => (if 0 ≤ x4_1 then (if x4_1 ≤ (l0.length : Int) then ((some (l0.take (x4_1 : Int).toNat : List (S59))).bind fun y76008 => (if y76005.length + y76008.length < 2199023255552 then ((some (y76005 ++ y76008 : List (S59))).bind fun y76013 => (if 0 ≤ (wrap64 (x4_1 + 2)) then (if (wrap64 (x4_1 + 2)) ≤ (l0.length : Int) then ((some (l0.drop ((wrap64 (x4_1 + 2)) : Int).toNat : List (S59))).bind fun y76016 => (if y76013.length + y76016.length < 2199023255552 then (some ((y76013 ++ y76016), true)) else (none))) else (none)) else (none))) else (none))) else (none)) else (none))) = some (r1, r2) := by rw [if_pos rfl] at H; exact H
                    clear H
                    have H := H1
                    clear H1
                    obtain ⟨y76005, hy76005⟩ : ∃ y_ : List (S59), y_ = (([] : List (S59))) := ⟨_, rfl⟩
                    replace H : (if 0 ≤ x4_1 then (if x4_1 ≤ (l0.length : Int) then ((some (l0.take (x4_1 : Int).toNat : List (S59))).bind fun y76008 => (if y76005.length + y76008.length < 2199023255552 then ((some (y76005 ++ y76008 : List (S59))).bind fun y76013 => (if 0 ≤ (wrap64 (x4_1 + 2)) then (if (wrap64 (x4_1 + 2)) ≤ (l0.length : Int) then ((some (l0.drop ((wrap64 (x4_1 + 2)) : Int).toNat : List (S59))).bind fun y76016 => (if y76013.length + y76016.length < 2199023255552 then (some ((y76013 ++ y76016), true)) else (none))) else (none)) else (none))) else (none))) else (none)) else (none)) = some (r1, r2) := by first | (rw [hy76005]; with_reducible exact H) | (have H2_ := (Option.bind_some _ _).symm.trans H; rw [hy76005]; with_reducible exact H2_) | (have H2_ := (Option.bind_some _ _).symm.trans H; with_reducible exact H2_) | with_reducible exact H | (rw [hy76005]; exact H) | exact H
                    have Ny76005 := Aside0.mk hy76005
                    clear hy76005
                    by_cases c12 : 0 ≤ x4_1
                    · rw [if_pos c12] at H
                      have c12b0 := eq_true c12
                      have c12b1 : decide (0 ≤ x4_1) = true := decide_eq_true c12
                      clear c12
                      by_cases c13 : x4_1 ≤ (l0.length : Int)
                      · rw [if_pos c13] at H
                        have c13b0 := eq_true c13
                        have c13b1 : decide (x4_1 ≤ (l0.length : Int)) = true := decide_eq_true c13
                        clear c13
                        obtain ⟨y76008, hy76008⟩ : ∃ y_ : List (S59), y_ = (l0.take (x4_1 : Int).toNat) := ⟨_, rfl⟩
                        replace H : (if y76005.length + y76008.length < 2199023255552 then ((some (y76005 ++ y76008 : List (S59))).bind fun y76013 => (if 0 ≤ (wrap64 (x4_1 + 2)) then (if (wrap64 (x4_1 + 2)) ≤ (l0.length : Int) then ((some (l0.drop ((wrap64 (x4_1 + 2)) : Int).toNat : List (S59))).bind fun y76016 => (if y76013.length + y76016.length < 2199023255552 then (some ((y76013 ++ y76016), true)) else (none))) else (none)) else (none))) else (none)) = some (r1, r2) := by first | (rw [hy76008]; with_reducible exact H) | (have H2_ := (Option.bind_some _ _).symm.trans H; rw [hy76008]; with_reducible exact H2_) | (have H2_ := (Option.bind_some _ _).symm.trans H; with_reducible exact H2_) | with_reducible exact H | (rw [hy76008]; exact H) | exact H
                        have Ny76008 := Aside0.mk hy76008
                        clear hy76008
                        by_cases c14 : y76005.length + y76008.length < 2199023255552
                        · rw [if_pos c14] at H
                          have LMc14 := Aside0.mk c14
                          clear c14
                          obtain ⟨y76013, hy76013⟩ : ∃ y_ : List (S59), y_ = (y76005 ++ y76008) := ⟨_, rfl⟩
                          replace H : (if 0 ≤ (wrap64 (x4_1 + 2)) then (if (wrap64 (x4_1 + 2)) ≤ (l0.length : Int) then ((some (l0.drop ((wrap64 (x4_1 + 2)) : Int).toNat : List (S59))).bind fun y76016 => (if y76013.length + y76016.length < 2199023255552 then (some ((y76013 ++ y76016), true)) else (none))) else (none)) else (none)) = some (r1, r2) := by first | (rw [hy76013]; with_reducible exact H) | (have H2_ := (Option.bind_some _ _).symm.trans H; rw [hy76013]; with_reducible exact H2_) | (have H2_ := (Option.bind_some _ _).symm.trans H; with_reducible exact H2_) | with_reducible exact H | (rw [hy76013]; exact H) | exact H
                          have Ny76013 := Aside0.mk hy76013
                          clear hy76013
                          obtain ⟨ji15, hji15⟩ : ∃ j_ : Int, (wrap64 (x4_1 + 2)) = j_ := ⟨_, rfl⟩
                          replace H : (if 0 ≤ (ji15) then (if (ji15) ≤ (l0.length : Int) then ((some (l0.drop ((ji15) : Int).toNat : List (S59))).bind fun y76016 => (if y76013.length + y76016.length < 2199023255552 then (some ((y76013 ++ y76016), true)) else (none))) else (none)) else (none)) = some (r1, r2) := by first | (rw [hji15] at H; exact H) | (simp only [hji15] at H ⊢; exact H)
                          have hji15w : (IntKind.i64.wrap (x4_1 + 2)) = ji15 := (i64_w _).trans hji15
                          by_cases c16 : 0 ≤ (ji15)
                          · rw [if_pos c16] at H
                            have c16b0 := eq_true c16
                            have c16b1 : decide (0 ≤ (ji15)) = true := decide_eq_true c16
                            clear c16
                            by_cases c17 : (ji15) ≤ (l0.length : Int)
                            · rw [if_pos c17] at H
                              have c17b0 := eq_true c17
                              have c17b1 : decide ((ji15) ≤ (l0.length : Int)) = true := decide_eq_true c17
                              clear c17
                              obtain ⟨y76016, hy76016⟩ : ∃ y_ : List (S59), y_ = (l0.drop ((ji15) : Int).toNat) := ⟨_, rfl⟩
                              replace H : (if y76013.length + y76016.length < 2199023255552 then (some ((y76013 ++ y76016), true)) else (none)) = some (r1, r2) := by first | (rw [hy76016]; with_reducible exact H) | (have H2_ := (Option.bind_some _ _).symm.trans H; rw [hy76016]; with_reducible exact H2_) | (have H2_ := (Option.bind_some _ _).symm.trans H; with_reducible exact H2_) | with_reducible exact H | (rw [hy76016]; exact H) | exact H
                              have Ny76016 := Aside0.mk hy76016
                              clear hy76016
                              by_cases c18 : y76013.length + y76016.length < 2199023255552
                              · rw [if_pos c18] at H
                                have LMc18 := Aside0.mk c18
                                clear c18
                                obtain ⟨y76021, hy76021⟩ : ∃ y_ : List (S59), y_ = (y76013 ++ y76016) := ⟨_, rfl⟩
                                replace H : (some (y76021, true)) = some (r1, r2) := by first | (rw [hy76021]; with_reducible exact H) | (have H2_ := (Option.bind_some _ _).symm.trans H; rw [hy76021]; with_reducible exact H2_) | (have H2_ := (Option.bind_some _ _).symm.trans H; with_reducible exact H2_) | with_reducible exact H | (rw [hy76021]; exact H) | exact H
                                have Ny76021 := Aside0.mk hy76021
                                clear hy76021
                                simp only [Option.some.injEq, Prod.mk.injEq] at H
                                obtain ⟨rfl, rfl⟩ := H
                                try go_wp2
                                have n0_ := Aside0.mk (Kd.V_drew HO_0.out)
                                have n1_ := Aside0.mk (Kd.C_drew HR76001_5.out)
                                have n2_ := Aside0.mk (Kd.C_drew HR76002_5.out)
                                have n3_ := Aside0.mk (below_drew1 HB.out)
                                clear HO_0
                                clear HR76001_5
                                clear HR76002_5
                                clear HB
                                have HO_0 := n0_
                                have HR76001_5 := n1_
                                have HR76002_5 := n2_
                                have HB := n3_
                                clear n0_ n1_ n2_ n3_
                                have q20 : (x4_1 : Int) ≤ ((l0.length : Int) : Int) := of_decide_eq_true (by first | (with_reducible assumption) | assumption)
                                obtain ⟨i020, hi020, _, hsz20, _⟩ := info_parts info59
                                have hroom20 : l0.length ≤ c0 := (Kd.V_reads' HO_0.out).2.1
                                have hC20 : Kd.F k59 _ _ (some ad76001) l0.length l0 := (Kd.V_at (base := w.heap.size) HO_0.out).2.2
                                have hcut20 := cut_to (P := Try.prog) 53 59 .i64 Try.underlying53 hi020 (some ad76001) l0.length c0 x4_1 (of_decide_eq_true (by first | (with_reducible assumption) | assumption)) q20 hroom20
                                have hr20 := Kd.F_take (m := (x4_1 : Int).toNat) hC20 (by omega)
                                have hy20 : y76008.length = (x4_1 : Int).toNat := (by rw [Ny76008.out, List.length_take]; omega)
                                rw [← Ny76008.out] at hr20
                                rw [← hy20] at hcut20
                                have HO76012 := Aside0.mk (show Kd.V k59 59 _ w.heap.size _ (.slice (some ad76001) y76008.length c0) y76008 from Kd.V_mk (by omega) hr20)
                                have HC76012 := Aside0.mk (show y76008.length ≤ c0 from by omega)
                                clear hr20 hC20 hroom20 hi020 hsz20
                                have KY20 := Aside0.mk hy20
                                clear hy20
                                replace q20 := eq_true q20
                                have q21 : ((ji15) : Int) ≤ ((l0.length : Int) : Int) := of_decide_eq_true (by first | (with_reducible assumption) | assumption)
                                obtain ⟨i021, hi021, _, hsz21, _⟩ := info_parts info59
                                have hroom21 : l0.length ≤ c0 := (Kd.V_reads' HO_0.out).2.1
                                have hC21 : Kd.F k59 _ _ (some ad76001) l0.length l0 := (Kd.V_at (base := w.heap.size) HO_0.out).2.2
                                have q021 : (0 : Int) ≤ ((ji15) : Int) := of_decide_eq_true (by first | (with_reducible assumption) | assumption)
                                have hcut21 := cut_from (P := Try.prog) 53 59 .i64 Try.underlying53 hi021 6 hsz21 (some ad76001) l0.length c0 (ji15) q021 q21
                                have hr21 := Kd.F_cut (m := ((ji15) : Int).toNat) (c := c0) hC21 (by omega) hroom21
                                obtain ⟨A21, hA21⟩ : ∃ A1, A1 = (if c0 = ((ji15) : Int).toNat then (some ad76001) else ((some ad76001) : Option Addr).map (·.add (((ji15) : Int).toNat * 6))) := ⟨_, rfl⟩
                                obtain ⟨c21, hc21⟩ : ∃ c1, c1 = c0 - ((ji15) : Int).toNat := ⟨_, rfl⟩
                                have hy21 : y76016.length = l0.length - ((ji15) : Int).toNat := (by rw [Ny76016.out, List.length_drop] <;> omega)
                                rw [show (l0).drop ((ji15) : Int).toNat = y76016 from Ny76016.out.symm] at hr21
                                replace hr21 : Kd.F k59 _ _ A21 y76016.length y76016 := (by rw [hA21]; exact hr21)
                                rw [← hy21, ← hA21, ← hc21] at hcut21
                                have HO76020 := Aside0.mk (show Kd.V k59 59 _ w.heap.size _ (.slice A21 y76016.length c21) y76016 from Kd.V_mk (by rw [hy21, hc21]; exact Nat.sub_le_sub_right hroom21 _) hr21)
                                have HC76020 := Aside0.mk (show y76016.length ≤ c21 from by rw [hy21, hc21]; exact Nat.sub_le_sub_right hroom21 _)
                                clear hr21 hC21 hroom21 hi021 hsz21 hc21
                                have KY21 := Aside0.mk hy21
                                have KA21 := Aside0.mk hA21
                                clear hy21 hA21
                                replace q21 := eq_true q21
                                refine start_ (n := 12) (S := fun w' => True) (ds := []) #[false, false, false, false, false, false, false, false, false, false, false, false] (by kernel_rfl) rfl rfl trivial (fun hHeld => ?_); refine with_tabW spec_simpler.tab6 spec_simpler.bits6 (fun HT_ HW_ => ?_)
                                generalize wc.drew = w19 at HO_0 HR76001_5 HR76002_5 HB HO76012 HO76020 hHeld ⊢
                                refine pure_ (i := 1) (N := some 43) (v := ?_) (a' := ?_) #[false, true, false, false, false, false, false, false, false, false, false, false] rfl rfl (any_of HT_.out (by kernel_rfl)) (fun _ _ _ h => h) (Or.inl ⟨by rfl, ?_⟩) ?_ ?_
                                rotate_left
                                · intro w'
                                  go_simp
                                  with_reducible rfl
                                rotate_left
                                · simp only [Act.put, List.setIfInBounds_toArray, List.set_cons_zero, List.set_cons_succ, i64_w, i32_w]
                                  rfl
                                refine pure_ (i := 2) (N := some 44) (v := ?_) (a' := ?_) #[false, true, true, false, false, false, false, false, false, false, false, false] rfl rfl (any_of HT_.out (by kernel_rfl)) (fun _ _ _ h => h) (Or.inl ⟨by rfl, ?_⟩) ?_ ?_
                                rotate_left
                                · intro w'
                                  go_simp
                                  with_reducible rfl
                                rotate_left
                                · simp only [Act.put, List.setIfInBounds_toArray, List.set_cons_zero, List.set_cons_succ, i64_w, i32_w]
                                  rfl
                                refine pure_ (i := 3) (N := some 45) (v := ?_) (a' := ?_) #[false, true, true, true, false, false, false, false, false, false, false, false] rfl rfl (any_of HT_.out (by kernel_rfl)) (fun _ _ _ h => h) (Or.inl ⟨by rfl, ?_⟩) ?_ ?_
                                rotate_left
                                · intro w'
                                  go_simp
                                  with_reducible rfl
                                rotate_left
                                · simp only [Act.put, List.setIfInBounds_toArray, List.set_cons_zero, List.set_cons_succ, i64_w, i32_w]
                                  rfl
                                refine pure_ (i := 5) (N := some 47) (v := ?_) (a' := ?_) #[false, true, true, true, false, true, false, false, false, false, false, false] rfl rfl (any_of HT_.out (by kernel_rfl)) (fun _ _ _ h => h) (Or.inl ⟨by rfl, ?_⟩) ?_ ?_
                                rotate_left
                                · intro w'
                                  go_simp
                                  with_reducible rfl
                                rotate_left
                                · simp only [Act.put, List.setIfInBounds_toArray, List.set_cons_zero, List.set_cons_succ, i64_w, i32_w]
                                  rfl
                                refine pure_ (i := 6) (N := some 48) (v := ?_) (a' := ?_) #[false, true, true, true, false, true, true, false, false, false, false, false] rfl rfl (any_of HT_.out (by kernel_rfl)) (fun _ _ _ h => h) (Or.inl ⟨by rfl, ?_⟩) ?_ ?_
                                rotate_left
                                · intro w'
                                  go_simp
                                  with_reducible rfl
                                rotate_left
                                · simp only [Act.put, List.setIfInBounds_toArray, List.set_cons_zero, List.set_cons_succ, i64_w, i32_w]
                                  rfl
                                refine pure_ (i := 7) (N := some 49) (v := ?_) (a' := ?_) #[false, true, true, true, false, true, true, true, false, false, false, false] rfl rfl (any_of HT_.out (by kernel_rfl)) (fun _ _ _ h => h) (Or.inl ⟨by rfl, ?_⟩) ?_ ?_
                                rotate_left
                                · intro w'
                                  go_simp
                                  with_reducible rfl
                                rotate_left
                                · simp only [Act.put, List.setIfInBounds_toArray, List.set_cons_zero, List.set_cons_succ, i64_w, i32_w]
                                  rfl
                                refine pure_ (i := 8) (N := some 50) (v := ?_) (a' := ?_) #[false, true, true, true, false, true, true, true, true, false, false, false] rfl rfl (any_of HT_.out (by kernel_rfl)) (fun _ _ _ h => h) (Or.inl ⟨by rfl, ?_⟩) ?_ ?_
                                rotate_left
                                · intro w'
                                  go_simp
                                  with_reducible rfl
                                rotate_left
                                · simp only [Act.put, List.setIfInBounds_toArray, List.set_cons_zero, List.set_cons_succ, i64_w, i32_w]
                                  rfl
                                refine one_ (i := 0) (N := some 42) #[true, true, true, true, false, true, true, true, true, false, false, false] rfl rfl (one_of HT_.out (by kernel_rfl)) (by decide) (fun K hK => ?_)
                                refine Kd.N_lit_step k59 _ 59 ?hg (N' := 42) ?hd (xs := ([] : List (S59))) (inner := []) (ok := (fun k_ => (P0_ k_ ∨ w.heap.size ≤ k_))) (okp := (fun k_ => (P0_ k_ ∨ w.heap.size ≤ k_))) ?hr ?hp (fun _ hk => hk) ((show ∀ k_, w19.heap.size ≤ k_ → (fun k_ => (P0_ k_ ∨ w.heap.size ≤ k_)) k_ from fun k_ hk => (.inr (Nat.le_trans (below_size (by repeat (first | (with_reducible first | exact HB.out | apply below_alloc | apply pw_below_drewN | apply below_drew1) | exact HB.out))) hk))) _ (Nat.le_refl _)) (Below.refl _ _) (Nat.le_refl _) (by simp) ?_; (case hd => rfl); (case hg => rfl); (case hr => first | (go_simp; done) | (go_simp; rfl)); (case hp => exact (Reps.none _ _))
                                intro v76006 w22 ho23 hb hg_ hnew_
                                clear hg_ hnew_
                                (first | rw [← Ny76005.out] at ho23 | (simp only [Int.reduceToNat] at ho23; rw [← Ny76005.out] at ho23))
                                have n0_ := Aside0.mk (Kd.V_elder' (by (with_reducible repeat (first | apply Kd.V_alloc | apply Kd.V_drewN | apply Kd.V_drew)); exact HO_0.out) (Kd.N_base ho23) hb)
                                have n1_ := Aside0.mk (Kd.V_elder' (by (with_reducible repeat (first | apply Kd.V_alloc | apply Kd.V_drewN | apply Kd.V_drew)); exact HO76012.out) (Kd.N_base ho23) hb)
                                have n2_ := Aside0.mk (Kd.V_elder' (by (with_reducible repeat (first | apply Kd.V_alloc | apply Kd.V_drewN | apply Kd.V_drew)); exact HO76020.out) (Kd.N_base ho23) hb)
                                have n3_ := Aside0.mk (Kd.N_lower ho23 (below_size (by repeat (first | (with_reducible first | exact HB.out | apply below_alloc | apply pw_below_drewN | apply below_drew1) | exact HB.out))))
                                have n4_ := Aside0.mk (Kd.C_below (by repeat (first | (with_reducible exact HR76001_5.out) | (with_reducible refine Kd.C_alloc ?_ _) | (with_reducible refine Kd.C_drewN ?_ _) | (with_reducible refine Kd.C_drew ?_) | exact HR76001_5.out)) hb)
                                have n5_ := Aside0.mk (Kd.C_below (by repeat (first | (with_reducible exact HR76002_5.out) | (with_reducible refine Kd.C_alloc ?_ _) | (with_reducible refine Kd.C_drewN ?_ _) | (with_reducible refine Kd.C_drew ?_) | exact HR76002_5.out)) hb)
                                have n6_ := Aside0.mk (below_step (by repeat (first | (with_reducible first | exact HB.out | apply below_alloc | apply pw_below_drewN | apply below_drew1) | exact HB.out)) hb)
                                clear HO_0
                                clear HO76012
                                clear HO76020
                                clear HR76001_5
                                clear HR76002_5
                                clear HB
                                have HO_0 := n0_
                                have HO76012 := n1_
                                have HO76020 := n2_
                                have HO76007 := n3_
                                have HR76001_5 := n4_
                                have HR76002_5 := n5_
                                have HB := n6_
                                clear n0_ n1_ n2_ n3_ n4_ n5_ n6_
                                clear hb ho23
                                refine hK.out _ _ trivial (fun hHeld => ?_)
                                clear hK K
                                refine norm_ (a' := ?_) ?_ ?_
                                rotate_left
                                · show Act.put _ (some 42) _ = _
                                  simp only [Act.put, List.setIfInBounds_toArray, List.set_cons_zero, List.set_cons_succ, i64_w, i32_w]
                                  rfl
                                refine one_ (i := 4) (N := some 46) #[true, true, true, true, true, true, true, true, true, false, false, false] rfl rfl (one_of HT_.out (by kernel_rfl)) (by decide) (fun K hK => ?_)
                                refine Kd.N_append_rows_step k59 (w0 := w) w.heap.size (by rfl) (.tmp 42) (.tmp 45) 53 59 (.agg #[(.int .i64 0), (.int .i64 0), (.int .i64 0), (.int .i64 0), (.int .i64 0), (.slice none 0 0)]) 64 rfl Try.underlying53 info59 rfl (by decide) (by omega) v76006 y76005 y76008 _ _ _ (fun k_ => (P0_ k_ ∨ w.heap.size ≤ k_)) (fun k_ => ((fun k_ => (P0_ k_ ∨ w.heap.size ≤ k_))) k_ ∧ some k_ ≠ (v76006 : Value).ownBlock) rfl rfl ?aO ?aR (fun _ hk => hk) ?aF ?aB ?aS ?aL ?_
                                (case aR => exact (by skip; exact Kd.V_F (Kd.V_mono (ok' := (fun k_ => ((fun k_ => (P0_ k_ ∨ w.heap.size ≤ k_))) k_ ∧ some k_ ≠ (v76006 : Value).ownBlock)) (HO76012.out) (fun k_ hk => ⟨hk.1, hk.2⟩))))
                                (case aB => exact (by repeat (first | (with_reducible first | exact HB.out | apply below_alloc | apply pw_below_drewN | apply below_drew1) | exact HB.out)))
                                (case aF => exact (fun k_ hk => (.inr (Nat.le_trans (below_size (by repeat (first | (with_reducible first | exact HB.out | apply below_alloc | apply pw_below_drewN | apply below_drew1) | exact HB.out))) hk))))
                                (case aO => exact (by (with_reducible repeat (first | apply Kd.N_alloc | apply Kd.N_drewN | apply Kd.N_drew)); exact HO76007.out))
                                (case aS => exact (below_size (by repeat (first | (with_reducible first | exact HB.out | apply below_alloc | apply pw_below_drewN | apply below_drew1) | exact HB.out))))
                                (case aL => have := LMc14.out; omega)
                                intro v76014 w24 ho hb hg hat
                                rw [← Ny76013.out] at ho
                                have n0_ := Aside0.mk (Kd.V_afterv (ok := (fun k_ => (P0_ k_ ∨ w.heap.size ≤ k_))) (by (with_reducible repeat (first | apply Kd.V_alloc | apply Kd.V_drewN | apply Kd.V_drew)); exact HO_0.out) hg hat)
                                have n1_ := Aside0.mk (Kd.V_afterv (ok := (fun k_ => (P0_ k_ ∨ w.heap.size ≤ k_))) (by (with_reducible repeat (first | apply Kd.V_alloc | apply Kd.V_drewN | apply Kd.V_drew)); exact HO76012.out) hg hat)
                                have n2_ := Aside0.mk (Kd.V_afterv (ok := (fun k_ => (P0_ k_ ∨ w.heap.size ≤ k_))) (by (with_reducible repeat (first | apply Kd.V_alloc | apply Kd.V_drewN | apply Kd.V_drew)); exact HO76020.out) hg hat)
                                have n3_ := Aside0.mk (hb)
                                have n4_ := Aside0.mk (ho)
                                clear HO_0
                                clear HO76012
                                clear HO76020
                                clear HB
                                clear HO76007
                                have HO_0 := n0_
                                have HO76012 := n1_
                                have HO76020 := n2_
                                have HB := n3_
                                have HO76015 := n4_
                                clear n0_ n1_ n2_ n3_ n4_
                                clear ho hb hg hat
                                refine hK.out _ _ trivial (fun hHeld => ?_)
                                clear hK K
                                refine norm_ (a' := ?_) ?_ ?_
                                rotate_left
                                · show Act.put _ (some 46) _ = _
                                  simp only [Act.put, List.setIfInBounds_toArray, List.set_cons_zero, List.set_cons_succ, i64_w, i32_w]
                                  rfl
                                refine one_ (i := 9) (N := some 51) #[true, true, true, true, true, true, true, true, true, true, false, false] rfl rfl (one_of HT_.out (by kernel_rfl)) (by decide) (fun K hK => ?_)
                                refine Kd.N_append_rows_step k59 (w0 := w) w.heap.size (by rfl) (.tmp 46) (.tmp 50) 53 59 (.agg #[(.int .i64 0), (.int .i64 0), (.int .i64 0), (.int .i64 0), (.int .i64 0), (.slice none 0 0)]) 64 rfl Try.underlying53 info59 rfl (by decide) (by omega) v76014 y76013 y76016 _ _ _ (fun k_ => (P0_ k_ ∨ w.heap.size ≤ k_)) (fun k_ => ((fun k_ => (P0_ k_ ∨ w.heap.size ≤ k_))) k_ ∧ some k_ ≠ (v76014 : Value).ownBlock) rfl rfl ?aO ?aR (fun _ hk => hk) ?aF ?aB ?aS ?aL ?_
                                (case aR => exact (by skip; exact Kd.V_F (Kd.V_mono (ok' := (fun k_ => ((fun k_ => (P0_ k_ ∨ w.heap.size ≤ k_))) k_ ∧ some k_ ≠ (v76014 : Value).ownBlock)) (HO76020.out) (fun k_ hk => ⟨hk.1, hk.2⟩))))
                                (case aB => exact (by repeat (first | (with_reducible first | exact HB.out | apply below_alloc | apply pw_below_drewN | apply below_drew1) | exact HB.out)))
                                (case aF => exact (fun k_ hk => (.inr (Nat.le_trans (below_size (by repeat (first | (with_reducible first | exact HB.out | apply below_alloc | apply pw_below_drewN | apply below_drew1) | exact HB.out))) hk))))
                                (case aO => exact (by (with_reducible repeat (first | apply Kd.N_alloc | apply Kd.N_drewN | apply Kd.N_drew)); exact HO76015.out))
                                (case aS => exact (below_size (by repeat (first | (with_reducible first | exact HB.out | apply below_alloc | apply pw_below_drewN | apply below_drew1) | exact HB.out))))
                                (case aL => have := LMc18.out; omega)
                                intro v76022 w25 ho hb hg hat
                                rw [← Ny76021.out] at ho
                                have n0_ := Aside0.mk (Kd.V_afterv (ok := (fun k_ => (P0_ k_ ∨ w.heap.size ≤ k_))) (by (with_reducible repeat (first | apply Kd.V_alloc | apply Kd.V_drewN | apply Kd.V_drew)); exact HO_0.out) hg hat)
                                have n1_ := Aside0.mk (Kd.V_afterv (ok := (fun k_ => (P0_ k_ ∨ w.heap.size ≤ k_))) (by (with_reducible repeat (first | apply Kd.V_alloc | apply Kd.V_drewN | apply Kd.V_drew)); exact HO76012.out) hg hat)
                                have n2_ := Aside0.mk (Kd.V_afterv (ok := (fun k_ => (P0_ k_ ∨ w.heap.size ≤ k_))) (by (with_reducible repeat (first | apply Kd.V_alloc | apply Kd.V_drewN | apply Kd.V_drew)); exact HO76020.out) hg hat)
                                have n3_ := Aside0.mk (hb)
                                have n4_ := Aside0.mk (ho)
                                clear HO_0
                                clear HO76012
                                clear HO76020
                                clear HB
                                clear HO76015
                                have HO_0 := n0_
                                have HO76012 := n1_
                                have HO76020 := n2_
                                have HB := n3_
                                have HO76023 := n4_
                                clear n0_ n1_ n2_ n3_ n4_
                                clear ho hb hg hat
                                refine hK.out _ _ trivial (fun hHeld => ?_)
                                clear hK K
                                refine norm_ (a' := ?_) ?_ ?_
                                rotate_left
                                · show Act.put _ (some 51) _ = _
                                  simp only [Act.put, List.setIfInBounds_toArray, List.set_cons_zero, List.set_cons_succ, i64_w, i32_w]
                                  rfl
                                refine pure_ (i := 10) (N := some 2) (v := ?_) (a' := ?_) #[true, true, true, true, true, true, true, true, true, true, true, false] rfl rfl (any_of HT_.out (by kernel_rfl)) (fun _ _ _ h => h) (Or.inl ⟨by rfl, ?_⟩) ?_ ?_
                                rotate_left
                                · intro w'
                                  go_simp
                                  with_reducible rfl
                                rotate_left
                                · simp only [Act.put, List.setIfInBounds_toArray, List.set_cons_zero, List.set_cons_succ, i64_w, i32_w]
                                  rfl
                                refine pure_ (i := 11) (N := some 3) (v := ?_) (a' := ?_) #[true, true, true, true, true, true, true, true, true, true, true, true] rfl rfl (any_of HT_.out (by kernel_rfl)) (fun _ _ _ h => h) (Or.inl ⟨by rfl, ?_⟩) ?_ ?_
                                rotate_left
                                · intro w'
                                  go_simp
                                  with_reducible rfl
                                rotate_left
                                · simp only [Act.put, List.setIfInBounds_toArray, List.set_cons_zero, List.set_cons_succ, i64_w, i32_w]
                                  rfl
                                refine done_ (done_of HT_.out (by kernel_rfl)) ?_
                                try go_wp2
                                go_ret2
                                exact ⟨_, by first | rfl | (simp [errW_none, errW_some] <;> rfl) | (simp only [← hji5, ← hji15]; first | rfl | (simp [errW_none, errW_some] <;> rfl)) | (simp [*, errW_none, errW_some] <;> rfl), Kd.N_V (by (with_reducible repeat (first | apply Kd.N_alloc | apply Kd.N_drewN | apply Kd.N_drew)); exact HO76023.out), by repeat (first | (with_reducible first | exact HB.out | apply below_alloc | apply pw_below_drewN | apply below_drew1) | exact HB.out)⟩
                              · rw [if_neg c18] at H
                                exact absurd H (by simp)
                            · rw [if_neg c17] at H
                              exact absurd H (by simp)
                          · rw [if_neg c16] at H
                            exact absurd H (by simp)
                        · rw [if_neg c14] at H
                          exact absurd H (by simp)
                      · rw [if_neg c13] at H
                        exact absurd H (by simp)
                    · rw [if_neg c12] at H
                      exact absurd H (by simp)
                  · replace c11 := Bool.eq_false_iff.mpr c11
                    subst c11
                    have H1 : (if (wrap64 (x4_1 + 3)) < (l0.length : Int) then (if 0 ≤ x4_1 then (if x4_1 < (l0.length : Int) then (if ((rd_T59 l0 x4_1).f0) = 1 then (if (((rd_T59 l0 x4_1).f0) == ((rd_T59 l0 (ji5)).f0)) = true then (if 0 ≤ (wrap64 (x4_1 + 2)) then (if (wrap64 (x4_1 + 2)) < (l0.length : Int) then (if ((rd_T59 l0 (wrap64 (x4_1 + 2))).f0) = 1 then (if 0 ≤ (wrap64 (x4_1 + 3)) then (if ((rd_T59 l0 (wrap64 (x4_1 + 3))).f0) = 1 then ((some (([] : List (S59)) : List (S59))).bind fun y76027 => (if x4_1 ≤ (l0.length : Int) then ((some (l0.take (x4_1 : Int).toNat : List (S59))).bind fun y76030 => (if y76027.length + y76030.length < 2199023255552 then ((some (y76027 ++ y76030 : List (S59))).bind fun y76035 => (if 0 ≤ (wrap64 (x4_1 + 4)) then (if (wrap64 (x4_1 + 4)) ≤ (l0.length : Int) then ((some (l0.drop ((wrap64 (x4_1 + 4)) : Int).toNat : List (S59))).bind fun y76038 => (if y76035.length + y76038.length < 2199023255552 then (some ((y76035 ++ y76038), true)) else (none))) else (none)) else (none))) else (none))) else (none))) else (spec_simpler.l0 kj6 l0 (wrap64 (x4_1 + 1)))) else (none)) else (spec_simpler.l0 kj6 l0 (wrap64 (x4_1 + 1)))) else (none)) else (none)) else (spec_simpler.l0 kj6 l0 (wrap64 (x4_1 + 1)))) else (spec_simpler.l0 kj6 l0 (wrap64 (x4_1 + 1)))) else (none)) else (none)) else (spec_simpler.l0 kj6 l0 (wrap64 (x4_1 + 1)))) = some (r1, r2) := by rw [if_neg (show ¬ (false = true) by decide)] at H; exact H
                    clear H
                    have H := H1
                    clear H1
                    by_cases c26 : (wrap64 (x4_1 + 3)) < (l0.length : Int)
                    · rw [if_pos c26] at H
                      have c26b0 : decide ((wrap64 (x4_1 + 3)) < (l0.length : Int)) = true := decide_eq_true c26
                      clear c26
                      by_cases c27 : 0 ≤ x4_1
                      · rw [if_pos c27] at H
                        have c27b0 : decide (0 ≤ x4_1) = true := decide_eq_true c27
                        clear c27
                        by_cases c28 : x4_1 < (l0.length : Int)
                        · rw [if_pos c28] at H
                          have c28b0 : decide (x4_1 < (l0.length : Int)) = true := decide_eq_true c28
                          clear c28
                          by_cases c29 : ((rd_T59 l0 x4_1).f0) = 1
                          · rw [if_pos c29] at H
                            have c29b0 : (((rd_T59 l0 x4_1).f0) == 1) = true := beq_iff_eq.mpr c29
                            have c29b1 : (((rd_T59 l0 x4_1).f0) != 1) = false := bne_eq_false_iff_eq.mpr c29
                            clear c29
                            by_cases c30 : (((rd_T59 l0 x4_1).f0) == ((rd_T59 l0 (ji5)).f0)) = true
                            · rw [if_pos c30] at H
                              have c30b0 : (((rd_T59 l0 x4_1).f0) == ((rd_T59 l0 (ji5)).f0)) = true := c30
                              (try (have c30b1 : decide (((rd_T59 l0 x4_1).f0) = ((rd_T59 l0 (ji5)).f0)) = true := by simpa using c30))
                              (try (have c30b2 : (((rd_T59 l0 x4_1).f0) == ((rd_T59 l0 (ji5)).f0)) = true := by simpa using c30))
                              clear c30
                              obtain ⟨ji31, hji31⟩ : ∃ j_ : Int, (wrap64 (x4_1 + 2)) = j_ := ⟨_, rfl⟩
                              replace H : (if 0 ≤ (ji31) then (if (ji31) < (l0.length : Int) then (if ((rd_T59 l0 (ji31)).f0) = 1 then (if 0 ≤ (wrap64 (x4_1 + 3)) then (if ((rd_T59 l0 (wrap64 (x4_1 + 3))).f0) = 1 then ((some (([] : List (S59)) : List (S59))).bind fun y76027 => (if x4_1 ≤ (l0.length : Int) then ((some (l0.take (x4_1 : Int).toNat : List (S59))).bind fun y76030 => (if y76027.length + y76030.length < 2199023255552 then ((some (y76027 ++ y76030 : List (S59))).bind fun y76035 => (if 0 ≤ (wrap64 (x4_1 + 4)) then (if (wrap64 (x4_1 + 4)) ≤ (l0.length : Int) then ((some (l0.drop ((wrap64 (x4_1 + 4)) : Int).toNat : List (S59))).bind fun y76038 => (if y76035.length + y76038.length < 2199023255552 then (some ((y76035 ++ y76038), true)) else (none))) else (none)) else (none))) else (none))) else (none))) else (spec_simpler.l0 kj6 l0 (wrap64 (x4_1 + 1)))) else (none)) else (spec_simpler.l0 kj6 l0 (wrap64 (x4_1 + 1)))) else (none)) else (none)) = some (r1, r2) := by first | (rw [hji31] at H; exact H) | (simp only [hji31] at H ⊢; exact H)
                              have hji31w : (IntKind.i64.wrap (x4_1 + 2)) = ji31 := (i64_w _).trans hji31
                              by_cases c32 : 0 ≤ (ji31)
                              · rw [if_pos c32] at H
                                have c32b0 : decide (0 ≤ (ji31)) = true := decide_eq_true c32
                                clear c32
                                by_cases c33 : (ji31) < (l0.length : Int)
                                · rw [if_pos c33] at H
                                  have c33b0 : decide ((ji31) < (l0.length : Int)) = true := decide_eq_true c33
                                  clear c33
                                  by_cases c34 : ((rd_T59 l0 (ji31)).f0) = 1
                                  · rw [if_pos c34] at H
                                    have c34b0 : (((rd_T59 l0 (ji31)).f0) == 1) = true := beq_iff_eq.mpr c34
                                    have c34b1 : (((rd_T59 l0 (ji31)).f0) != 1) = false := bne_eq_false_iff_eq.mpr c34
                                    clear c34
                                    obtain ⟨ji35, hji35⟩ : ∃ j_ : Int, (wrap64 (x4_1 + 3)) = j_ := ⟨_, rfl⟩
                                    replace H : (if 0 ≤ (ji35) then (if ((rd_T59 l0 (ji35)).f0) = 1 then ((some (([] : List (S59)) : List (S59))).bind fun y76027 => (if x4_1 ≤ (l0.length : Int) then ((some (l0.take (x4_1 : Int).toNat : List (S59))).bind fun y76030 => (if y76027.length + y76030.length < 2199023255552 then ((some (y76027 ++ y76030 : List (S59))).bind fun y76035 => (if 0 ≤ (wrap64 (x4_1 + 4)) then (if (wrap64 (x4_1 + 4)) ≤ (l0.length : Int) then ((some (l0.drop ((wrap64 (x4_1 + 4)) : Int).toNat : List (S59))).bind fun y76038 => (if y76035.length + y76038.length < 2199023255552 then (some ((y76035 ++ y76038), true)) else (none))) else (none)) else (none))) else (none))) else (none))) else (spec_simpler.l0 kj6 l0 (wrap64 (x4_1 + 1)))) else (none)) = some (r1, r2) := by first | (rw [hji35] at H; exact H) | (simp only [hji35] at H ⊢; exact H)
                                    (try rw [hji35] at c26b0)
                                    have hji35w : (IntKind.i64.wrap (x4_1 + 3)) = ji35 := (i64_w _).trans hji35
                                    by_cases c36 : 0 ≤ (ji35)
                                    · rw [if_pos c36] at H
                                      have c36b0 : decide (0 ≤ (ji35)) = true := decide_eq_true c36
                                      clear c36
                                      by_cases c37 : ((rd_T59 l0 (ji35)).f0) = 1
                                      · rw [if_pos c37] at H
                                        have c37b0 : (((rd_T59 l0 (ji35)).f0) == 1) = true := beq_iff_eq.mpr c37
                                        have c37b1 : (((rd_T59 l0 (ji35)).f0) != 1) = false := bne_eq_false_iff_eq.mpr c37
                                        clear c37
                                        obtain ⟨y76027, hy76027⟩ : ∃ y_ : List (S59), y_ = (([] : List (S59))) := ⟨_, rfl⟩
                                        replace H : (if x4_1 ≤ (l0.length : Int) then ((some (l0.take (x4_1 : Int).toNat : List (S59))).bind fun y76030 => (if y76027.length + y76030.length < 2199023255552 then ((some (y76027 ++ y76030 : List (S59))).bind fun y76035 => (if 0 ≤ (wrap64 (x4_1 + 4)) then (if (wrap64 (x4_1 + 4)) ≤ (l0.length : Int) then ((some (l0.drop ((wrap64 (x4_1 + 4)) : Int).toNat : List (S59))).bind fun y76038 => (if y76035.length + y76038.length < 2199023255552 then (some ((y76035 ++ y76038), true)) else (none))) else (none)) else (none))) else (none))) else (none)) = some (r1, r2) := by first | (rw [hy76027]; with_reducible exact H) | (have H2_ := (Option.bind_some _ _).symm.trans H; rw [hy76027]; with_reducible exact H2_) | (have H2_ := (Option.bind_some _ _).symm.trans H; with_reducible exact H2_) | with_reducible exact H | (rw [hy76027]; exact H) | exact H
                                        have Ny76027 := Aside0.mk hy76027
                                        clear hy76027
                                        have c38b0 := eq_true (of_decide_eq_true (by first | (with_reducible assumption) | assumption) : 0 ≤ x4_1)
                                        by_cases c39 : x4_1 ≤ (l0.length : Int)
                                        · rw [if_pos c39] at H
                                          have c39b0 := eq_true c39
                                          have c39b1 : decide (x4_1 ≤ (l0.length : Int)) = true := decide_eq_true c39
                                          clear c39
                                          obtain ⟨y76030, hy76030⟩ : ∃ y_ : List (S59), y_ = (l0.take (x4_1 : Int).toNat) := ⟨_, rfl⟩
                                          replace H : (if y76027.length + y76030.length < 2199023255552 then ((some (y76027 ++ y76030 : List (S59))).bind fun y76035 => (if 0 ≤ (wrap64 (x4_1 + 4)) then (if (wrap64 (x4_1 + 4)) ≤ (l0.length : Int) then ((some (l0.drop ((wrap64 (x4_1 + 4)) : Int).toNat : List (S59))).bind fun y76038 => (if y76035.length + y76038.length < 2199023255552 then (some ((y76035 ++ y76038), true)) else (none))) else (none)) else (none))) else (none)) = some (r1, r2) := by first | (rw [hy76030]; with_reducible exact H) | (have H2_ := (Option.bind_some _ _).symm.trans H; rw [hy76030]; with_reducible exact H2_) | (have H2_ := (Option.bind_some _ _).symm.trans H; with_reducible exact H2_) | with_reducible exact H | (rw [hy76030]; exact H) | exact H
                                          have Ny76030 := Aside0.mk hy76030
                                          clear hy76030
                                          by_cases c40 : y76027.length + y76030.length < 2199023255552
                                          · rw [if_pos c40] at H
                                            have LMc40 := Aside0.mk c40
                                            clear c40
                                            obtain ⟨y76035, hy76035⟩ : ∃ y_ : List (S59), y_ = (y76027 ++ y76030) := ⟨_, rfl⟩
                                            replace H : (if 0 ≤ (wrap64 (x4_1 + 4)) then (if (wrap64 (x4_1 + 4)) ≤ (l0.length : Int) then ((some (l0.drop ((wrap64 (x4_1 + 4)) : Int).toNat : List (S59))).bind fun y76038 => (if y76035.length + y76038.length < 2199023255552 then (some ((y76035 ++ y76038), true)) else (none))) else (none)) else (none)) = some (r1, r2) := by first | (rw [hy76035]; with_reducible exact H) | (have H2_ := (Option.bind_some _ _).symm.trans H; rw [hy76035]; with_reducible exact H2_) | (have H2_ := (Option.bind_some _ _).symm.trans H; with_reducible exact H2_) | with_reducible exact H | (rw [hy76035]; exact H) | exact H
                                            have Ny76035 := Aside0.mk hy76035
                                            clear hy76035
                                            obtain ⟨ji41, hji41⟩ : ∃ j_ : Int, (wrap64 (x4_1 + 4)) = j_ := ⟨_, rfl⟩
                                            replace H : (if 0 ≤ (ji41) then (if (ji41) ≤ (l0.length : Int) then ((some (l0.drop ((ji41) : Int).toNat : List (S59))).bind fun y76038 => (if y76035.length + y76038.length < 2199023255552 then (some ((y76035 ++ y76038), true)) else (none))) else (none)) else (none)) = some (r1, r2) := by first | (rw [hji41] at H; exact H) | (simp only [hji41] at H ⊢; exact H)
                                            have hji41w : (IntKind.i64.wrap (x4_1 + 4)) = ji41 := (i64_w _).trans hji41
                                            by_cases c42 : 0 ≤ (ji41)
                                            · rw [if_pos c42] at H
                                              have c42b0 := eq_true c42
                                              have c42b1 : decide (0 ≤ (ji41)) = true := decide_eq_true c42
                                              clear c42
                                              by_cases c43 : (ji41) ≤ (l0.length : Int)
                                              · rw [if_pos c43] at H
                                                have c43b0 := eq_true c43
                                                have c43b1 : decide ((ji41) ≤ (l0.length : Int)) = true := decide_eq_true c43
                                                clear c43
                                                obtain ⟨y76038, hy76038⟩ : ∃ y_ : List (S59), y_ = (l0.drop ((ji41) : Int).toNat) := ⟨_, rfl⟩
                                                replace H : (if y76035.length + y76038.length < 2199023255552 then (some ((y76035 ++ y76038), true)) else (none)) = some (r1, r2) := by first | (rw [hy76038]; with_reducible exact H) | (have H2_ := (Option.bind_some _ _).symm.trans H; rw [hy76038]; with_reducible exact H2_) | (have H2_ := (Option.bind_some _ _).symm.trans H; with_reducible exact H2_) | with_reducible exact H | (rw [hy76038]; exact H) | exact H
                                                have Ny76038 := Aside0.mk hy76038
                                                clear hy76038
                                                by_cases c44 : y76035.length + y76038.length < 2199023255552
                                                · rw [if_pos c44] at H
                                                  have LMc44 := Aside0.mk c44
                                                  clear c44
                                                  obtain ⟨y76043, hy76043⟩ : ∃ y_ : List (S59), y_ = (y76035 ++ y76038) := ⟨_, rfl⟩
                                                  replace H : (some (y76043, true)) = some (r1, r2) := by first | (rw [hy76043]; with_reducible exact H) | (have H2_ := (Option.bind_some _ _).symm.trans H; rw [hy76043]; with_reducible exact H2_) | (have H2_ := (Option.bind_some _ _).symm.trans H; with_reducible exact H2_) | with_reducible exact H | (rw [hy76043]; exact H) | exact H
                                                  have Ny76043 := Aside0.mk hy76043
                                                  clear hy76043
                                                  simp only [Option.some.injEq, Prod.mk.injEq] at H
                                                  obtain ⟨rfl, rfl⟩ := H
                                                  have p76024 : 0 ≤ (x4_1 : Int) := of_decide_eq_true (by first | (with_reducible assumption) | assumption)
                                                  have q76024 : x4_1 < (l0.length : Int) := of_decide_eq_true (by first | (with_reducible assumption) | assumption)
                                                  obtain ⟨ad76024, A76024_5, c76024_5, e76024, hx76024_0, hx76024_1, hx76024_2, hx76024_3, hx76024_4, hx76024_5, hl76024_5, hi76024_5⟩ := at_T59 (Kd.V_reads' HO_0.out).2.2 x4_1 p76024 q76024
                                                  obtain rfl : ad76001 = ad76024 := (by injection e76024)
                                                  obtain ⟨ce76024, hce76024, hMe76024, hcc76024⟩ := Kd.V_get HO_0.out z59 x4_1 p76024 (by first | exact q76024 | exact of_decide_eq_true (by first | (with_reducible assumption) | assumption) | (have e_ := (Kd.V_reads' HO_0.out).1; omega))
                                                  obtain ⟨ua76024_5, uc76024_5, rfl, ul76024_5, ge76024_5⟩ := k59_openF hMe76024
                                                  have hv76024_5 := hcc76024 5 _ rfl
                                                  rw [add_field _ _ 5 (by omega)] at hv76024_5
                                                  replace hv76024_5 := Option.some.inj (hv76024_5.symm.trans hx76024_5)
                                                  injection hv76024_5 with hva_ hvn_ hvc_
                                                  rw [hva_] at ge76024_5
                                                  rw [hvc_] at ul76024_5
                                                  have HL76024_5 := Aside0.mk (show Kd.V (Kd.int .i64) 3 _ w.heap.size _ _ ((rd_T59 l0 x4_1).f2) from Kd.V_mk ul76024_5 ge76024_5)
                                                  clear hva_ hvn_ hvc_ ge76024_5 ul76024_5
                                                  clear hcc76024 hce76024
                                                  have HR76024_5 := Aside0.mk hi76024_5
                                                  have HC76024_5 := Aside0.mk hl76024_5
                                                  clear hi76024_5 hl76024_5
                                                  replace p76024 := eq_true p76024
                                                  replace q76024 := eq_true q76024
                                                  have p76025 : 0 ≤ ((ji31) : Int) := of_decide_eq_true (by first | (with_reducible assumption) | assumption)
                                                  have q76025 : (ji31) < (l0.length : Int) := of_decide_eq_true (by first | (with_reducible assumption) | assumption)
                                                  obtain ⟨ad76025, A76025_5, c76025_5, e76025, hx76025_0, hx76025_1, hx76025_2, hx76025_3, hx76025_4, hx76025_5, hl76025_5, hi76025_5⟩ := at_T59 (Kd.V_reads' HO_0.out).2.2 (ji31) p76025 q76025
                                                  obtain rfl : ad76001 = ad76025 := (by injection e76025)
                                                  obtain ⟨ce76025, hce76025, hMe76025, hcc76025⟩ := Kd.V_get HO_0.out z59 (ji31) p76025 (by first | exact q76025 | exact of_decide_eq_true (by first | (with_reducible assumption) | assumption) | (have e_ := (Kd.V_reads' HO_0.out).1; omega))
                                                  obtain ⟨ua76025_5, uc76025_5, rfl, ul76025_5, ge76025_5⟩ := k59_openF hMe76025
                                                  have hv76025_5 := hcc76025 5 _ rfl
                                                  rw [add_field _ _ 5 (by omega)] at hv76025_5
                                                  replace hv76025_5 := Option.some.inj (hv76025_5.symm.trans hx76025_5)
                                                  injection hv76025_5 with hva_ hvn_ hvc_
                                                  rw [hva_] at ge76025_5
                                                  rw [hvc_] at ul76025_5
                                                  have HL76025_5 := Aside0.mk (show Kd.V (Kd.int .i64) 3 _ w.heap.size _ _ ((rd_T59 l0 (ji31)).f2) from Kd.V_mk ul76025_5 ge76025_5)
                                                  clear hva_ hvn_ hvc_ ge76025_5 ul76025_5
                                                  clear hcc76025 hce76025
                                                  have HR76025_5 := Aside0.mk hi76025_5
                                                  have HC76025_5 := Aside0.mk hl76025_5
                                                  clear hi76025_5 hl76025_5
                                                  replace p76025 := eq_true p76025
                                                  replace q76025 := eq_true q76025
                                                  have p76026 : 0 ≤ ((ji35) : Int) := of_decide_eq_true (by first | (with_reducible assumption) | assumption)
                                                  have q76026 : (ji35) < (l0.length : Int) := of_decide_eq_true (by first | (with_reducible assumption) | assumption)
                                                  obtain ⟨ad76026, A76026_5, c76026_5, e76026, hx76026_0, hx76026_1, hx76026_2, hx76026_3, hx76026_4, hx76026_5, hl76026_5, hi76026_5⟩ := at_T59 (Kd.V_reads' HO_0.out).2.2 (ji35) p76026 q76026
                                                  obtain rfl : ad76001 = ad76026 := (by injection e76026)
                                                  obtain ⟨ce76026, hce76026, hMe76026, hcc76026⟩ := Kd.V_get HO_0.out z59 (ji35) p76026 (by first | exact q76026 | exact of_decide_eq_true (by first | (with_reducible assumption) | assumption) | (have e_ := (Kd.V_reads' HO_0.out).1; omega))
                                                  obtain ⟨ua76026_5, uc76026_5, rfl, ul76026_5, ge76026_5⟩ := k59_openF hMe76026
                                                  have hv76026_5 := hcc76026 5 _ rfl
                                                  rw [add_field _ _ 5 (by omega)] at hv76026_5
                                                  replace hv76026_5 := Option.some.inj (hv76026_5.symm.trans hx76026_5)
                                                  injection hv76026_5 with hva_ hvn_ hvc_
                                                  rw [hva_] at ge76026_5
                                                  rw [hvc_] at ul76026_5
                                                  have HL76026_5 := Aside0.mk (show Kd.V (Kd.int .i64) 3 _ w.heap.size _ _ ((rd_T59 l0 (ji35)).f2) from Kd.V_mk ul76026_5 ge76026_5)
                                                  clear hva_ hvn_ hvc_ ge76026_5 ul76026_5
                                                  clear hcc76026 hce76026
                                                  have HR76026_5 := Aside0.mk hi76026_5
                                                  have HC76026_5 := Aside0.mk hl76026_5
                                                  clear hi76026_5 hl76026_5
                                                  replace p76026 := eq_true p76026
                                                  replace q76026 := eq_true q76026
                                                  try go_wp2
                                                  have n0_ := Aside0.mk (Kd.V_drew HO_0.out)
                                                  have n1_ := Aside0.mk (Kd.V_drew HL76024_5.out)
                                                  have n2_ := Aside0.mk (Kd.V_drew HL76025_5.out)
                                                  have n3_ := Aside0.mk (Kd.V_drew HL76026_5.out)
                                                  have n4_ := Aside0.mk (Kd.C_drew HR76001_5.out)
                                                  have n5_ := Aside0.mk (Kd.C_drew HR76002_5.out)
                                                  have n6_ := Aside0.mk (Kd.C_drew HR76024_5.out)
                                                  have n7_ := Aside0.mk (Kd.C_drew HR76025_5.out)
                                                  have n8_ := Aside0.mk (Kd.C_drew HR76026_5.out)
                                                  have n9_ := Aside0.mk (below_drew1 HB.out)
                                                  clear HO_0
                                                  clear HL76024_5
                                                  clear HL76025_5
                                                  clear HL76026_5
                                                  clear HR76001_5
                                                  clear HR76002_5
                                                  clear HR76024_5
                                                  clear HR76025_5
                                                  clear HR76026_5
                                                  clear HB
                                                  have HO_0 := n0_
                                                  have HL76024_5 := n1_
                                                  have HL76025_5 := n2_
                                                  have HL76026_5 := n3_
                                                  have HR76001_5 := n4_
                                                  have HR76002_5 := n5_
                                                  have HR76024_5 := n6_
                                                  have HR76025_5 := n7_
                                                  have HR76026_5 := n8_
                                                  have HB := n9_
                                                  clear n0_ n1_ n2_ n3_ n4_ n5_ n6_ n7_ n8_ n9_
                                                  have q46 : (x4_1 : Int) ≤ ((l0.length : Int) : Int) := of_decide_eq_true (by first | (with_reducible assumption) | assumption)
                                                  obtain ⟨i046, hi046, _, hsz46, _⟩ := info_parts info59
                                                  have hroom46 : l0.length ≤ c0 := (Kd.V_reads' HO_0.out).2.1
                                                  have hC46 : Kd.F k59 _ _ (some ad76001) l0.length l0 := (Kd.V_at (base := w.heap.size) HO_0.out).2.2
                                                  have hcut46 := cut_to (P := Try.prog) 53 59 .i64 Try.underlying53 hi046 (some ad76001) l0.length c0 x4_1 (of_decide_eq_true (by first | (with_reducible assumption) | assumption)) q46 hroom46
                                                  have hr46 := Kd.F_take (m := (x4_1 : Int).toNat) hC46 (by omega)
                                                  have hy46 : y76030.length = (x4_1 : Int).toNat := (by rw [Ny76030.out, List.length_take]; omega)
                                                  rw [← Ny76030.out] at hr46
                                                  rw [← hy46] at hcut46
                                                  have HO76034 := Aside0.mk (show Kd.V k59 59 _ w.heap.size _ (.slice (some ad76001) y76030.length c0) y76030 from Kd.V_mk (by omega) hr46)
                                                  have HC76034 := Aside0.mk (show y76030.length ≤ c0 from by omega)
                                                  clear hr46 hC46 hroom46 hi046 hsz46
                                                  have KY46 := Aside0.mk hy46
                                                  clear hy46
                                                  replace q46 := eq_true q46
                                                  have q47 : ((ji41) : Int) ≤ ((l0.length : Int) : Int) := of_decide_eq_true (by first | (with_reducible assumption) | assumption)
                                                  obtain ⟨i047, hi047, _, hsz47, _⟩ := info_parts info59
                                                  have hroom47 : l0.length ≤ c0 := (Kd.V_reads' HO_0.out).2.1
                                                  have hC47 : Kd.F k59 _ _ (some ad76001) l0.length l0 := (Kd.V_at (base := w.heap.size) HO_0.out).2.2
                                                  have q047 : (0 : Int) ≤ ((ji41) : Int) := of_decide_eq_true (by first | (with_reducible assumption) | assumption)
                                                  have hcut47 := cut_from (P := Try.prog) 53 59 .i64 Try.underlying53 hi047 6 hsz47 (some ad76001) l0.length c0 (ji41) q047 q47
                                                  have hr47 := Kd.F_cut (m := ((ji41) : Int).toNat) (c := c0) hC47 (by omega) hroom47
                                                  obtain ⟨A47, hA47⟩ : ∃ A1, A1 = (if c0 = ((ji41) : Int).toNat then (some ad76001) else ((some ad76001) : Option Addr).map (·.add (((ji41) : Int).toNat * 6))) := ⟨_, rfl⟩
                                                  obtain ⟨c47, hc47⟩ : ∃ c1, c1 = c0 - ((ji41) : Int).toNat := ⟨_, rfl⟩
                                                  have hy47 : y76038.length = l0.length - ((ji41) : Int).toNat := (by rw [Ny76038.out, List.length_drop] <;> omega)
                                                  rw [show (l0).drop ((ji41) : Int).toNat = y76038 from Ny76038.out.symm] at hr47
                                                  replace hr47 : Kd.F k59 _ _ A47 y76038.length y76038 := (by rw [hA47]; exact hr47)
                                                  rw [← hy47, ← hA47, ← hc47] at hcut47
                                                  have HO76042 := Aside0.mk (show Kd.V k59 59 _ w.heap.size _ (.slice A47 y76038.length c47) y76038 from Kd.V_mk (by rw [hy47, hc47]; exact Nat.sub_le_sub_right hroom47 _) hr47)
                                                  have HC76042 := Aside0.mk (show y76038.length ≤ c47 from by rw [hy47, hc47]; exact Nat.sub_le_sub_right hroom47 _)
                                                  clear hr47 hC47 hroom47 hi047 hsz47 hc47
                                                  have KY47 := Aside0.mk hy47
                                                  have KA47 := Aside0.mk hA47
                                                  clear hy47 hA47
                                                  replace q47 := eq_true q47
                                                  refine start_ (n := 12) (S := fun w' => True) (ds := []) #[false, false, false, false, false, false, false, false, false, false, false, false] (by kernel_rfl) rfl rfl trivial (fun hHeld => ?_); refine with_tabW spec_simpler.tab8 spec_simpler.bits8 (fun HT_ HW_ => ?_)
                                                  generalize wc.drew = w45 at HO_0 HL76024_5 HL76025_5 HL76026_5 HR76001_5 HR76002_5 HR76024_5 HR76025_5 HR76026_5 HB HO76034 HO76042 hHeld ⊢
                                                  refine pure_ (i := 1) (N := some 87) (v := ?_) (a' := ?_) #[false, true, false, false, false, false, false, false, false, false, false, false] rfl rfl (any_of HT_.out (by kernel_rfl)) (fun _ _ _ h => h) (Or.inl ⟨by rfl, ?_⟩) ?_ ?_
                                                  rotate_left
                                                  · intro w'
                                                    go_simp
                                                    with_reducible rfl
                                                  rotate_left
                                                  · simp only [Act.put, List.setIfInBounds_toArray, List.set_cons_zero, List.set_cons_succ, i64_w, i32_w]
                                                    rfl
                                                  refine pure_ (i := 2) (N := some 88) (v := ?_) (a' := ?_) #[false, true, true, false, false, false, false, false, false, false, false, false] rfl rfl (any_of HT_.out (by kernel_rfl)) (fun _ _ _ h => h) (Or.inl ⟨by rfl, ?_⟩) ?_ ?_
                                                  rotate_left
                                                  · intro w'
                                                    go_simp
                                                    with_reducible rfl
                                                  rotate_left
                                                  · simp only [Act.put, List.setIfInBounds_toArray, List.set_cons_zero, List.set_cons_succ, i64_w, i32_w]
                                                    rfl
                                                  refine pure_ (i := 3) (N := some 89) (v := ?_) (a' := ?_) #[false, true, true, true, false, false, false, false, false, false, false, false] rfl rfl (any_of HT_.out (by kernel_rfl)) (fun _ _ _ h => h) (Or.inl ⟨by rfl, ?_⟩) ?_ ?_
                                                  rotate_left
                                                  · intro w'
                                                    go_simp
                                                    with_reducible rfl
                                                  rotate_left
                                                  · simp only [Act.put, List.setIfInBounds_toArray, List.set_cons_zero, List.set_cons_succ, i64_w, i32_w]
                                                    rfl
                                                  refine pure_ (i := 5) (N := some 91) (v := ?_) (a' := ?_) #[false, true, true, true, false, true, false, false, false, false, false, false] rfl rfl (any_of HT_.out (by kernel_rfl)) (fun _ _ _ h => h) (Or.inl ⟨by rfl, ?_⟩) ?_ ?_
                                                  rotate_left
                                                  · intro w'
                                                    go_simp
                                                    with_reducible rfl
                                                  rotate_left
                                                  · simp only [Act.put, List.setIfInBounds_toArray, List.set_cons_zero, List.set_cons_succ, i64_w, i32_w]
                                                    rfl
                                                  refine pure_ (i := 6) (N := some 92) (v := ?_) (a' := ?_) #[false, true, true, true, false, true, true, false, false, false, false, false] rfl rfl (any_of HT_.out (by kernel_rfl)) (fun _ _ _ h => h) (Or.inl ⟨by rfl, ?_⟩) ?_ ?_
                                                  rotate_left
                                                  · intro w'
                                                    go_simp
                                                    with_reducible rfl
                                                  rotate_left
                                                  · simp only [Act.put, List.setIfInBounds_toArray, List.set_cons_zero, List.set_cons_succ, i64_w, i32_w]
                                                    rfl
                                                  refine pure_ (i := 7) (N := some 93) (v := ?_) (a' := ?_) #[false, true, true, true, false, true, true, true, false, false, false, false] rfl rfl (any_of HT_.out (by kernel_rfl)) (fun _ _ _ h => h) (Or.inl ⟨by rfl, ?_⟩) ?_ ?_
                                                  rotate_left
                                                  · intro w'
                                                    go_simp
                                                    with_reducible rfl
                                                  rotate_left
                                                  · simp only [Act.put, List.setIfInBounds_toArray, List.set_cons_zero, List.set_cons_succ, i64_w, i32_w]
                                                    rfl
                                                  refine pure_ (i := 8) (N := some 94) (v := ?_) (a' := ?_) #[false, true, true, true, false, true, true, true, true, false, false, false] rfl rfl (any_of HT_.out (by kernel_rfl)) (fun _ _ _ h => h) (Or.inl ⟨by rfl, ?_⟩) ?_ ?_
                                                  rotate_left
                                                  · intro w'
                                                    go_simp
                                                    with_reducible rfl
                                                  rotate_left
                                                  · simp only [Act.put, List.setIfInBounds_toArray, List.set_cons_zero, List.set_cons_succ, i64_w, i32_w]
                                                    rfl
                                                  refine one_ (i := 0) (N := some 86) #[true, true, true, true, false, true, true, true, true, false, false, false] rfl rfl (one_of HT_.out (by kernel_rfl)) (by decide) (fun K hK => ?_)
                                                  refine Kd.N_lit_step k59 _ 59 ?hg (N' := 86) ?hd (xs := ([] : List (S59))) (inner := []) (ok := (fun k_ => (P0_ k_ ∨ w.heap.size ≤ k_))) (okp := (fun k_ => (P0_ k_ ∨ w.heap.size ≤ k_))) ?hr ?hp (fun _ hk => hk) ((show ∀ k_, w45.heap.size ≤ k_ → (fun k_ => (P0_ k_ ∨ w.heap.size ≤ k_)) k_ from fun k_ hk => (.inr (Nat.le_trans (below_size (by repeat (first | (with_reducible first | exact HB.out | apply below_alloc | apply pw_below_drewN | apply below_drew1) | exact HB.out))) hk))) _ (Nat.le_refl _)) (Below.refl _ _) (Nat.le_refl _) (by simp) ?_; (case hd => rfl); (case hg => rfl); (case hr => first | (go_simp; done) | (go_simp; rfl)); (case hp => exact (Reps.none _ _))
                                                  intro v76028 w48 ho49 hb hg_ hnew_
                                                  clear hg_ hnew_
                                                  (first | rw [← Ny76027.out] at ho49 | (simp only [Int.reduceToNat] at ho49; rw [← Ny76027.out] at ho49))
                                                  have n0_ := Aside0.mk (Kd.V_elder' (by (with_reducible repeat (first | apply Kd.V_alloc | apply Kd.V_drewN | apply Kd.V_drew)); exact HO_0.out) (Kd.N_base ho49) hb)
                                                  have n1_ := Aside0.mk (Kd.V_elder' (by (with_reducible repeat (first | apply Kd.V_alloc | apply Kd.V_drewN | apply Kd.V_drew)); exact HL76024_5.out) (Kd.N_base ho49) hb)
                                                  have n2_ := Aside0.mk (Kd.V_elder' (by (with_reducible repeat (first | apply Kd.V_alloc | apply Kd.V_drewN | apply Kd.V_drew)); exact HL76025_5.out) (Kd.N_base ho49) hb)
                                                  have n3_ := Aside0.mk (Kd.V_elder' (by (with_reducible repeat (first | apply Kd.V_alloc | apply Kd.V_drewN | apply Kd.V_drew)); exact HL76026_5.out) (Kd.N_base ho49) hb)
                                                  have n4_ := Aside0.mk (Kd.V_elder' (by (with_reducible repeat (first | apply Kd.V_alloc | apply Kd.V_drewN | apply Kd.V_drew)); exact HO76034.out) (Kd.N_base ho49) hb)
                                                  have n5_ := Aside0.mk (Kd.V_elder' (by (with_reducible repeat (first | apply Kd.V_alloc | apply Kd.V_drewN | apply Kd.V_drew)); exact HO76042.out) (Kd.N_base ho49) hb)
                                                  have n6_ := Aside0.mk (Kd.N_lower ho49 (below_size (by repeat (first | (with_reducible first | exact HB.out | apply below_alloc | apply pw_below_drewN | apply below_drew1) | exact HB.out))))
                                                  have n7_ := Aside0.mk (Kd.C_below (by repeat (first | (with_reducible exact HR76001_5.out) | (with_reducible refine Kd.C_alloc ?_ _) | (with_reducible refine Kd.C_drewN ?_ _) | (with_reducible refine Kd.C_drew ?_) | exact HR76001_5.out)) hb)
                                                  have n8_ := Aside0.mk (Kd.C_below (by repeat (first | (with_reducible exact HR76002_5.out) | (with_reducible refine Kd.C_alloc ?_ _) | (with_reducible refine Kd.C_drewN ?_ _) | (with_reducible refine Kd.C_drew ?_) | exact HR76002_5.out)) hb)
                                                  have n9_ := Aside0.mk (Kd.C_below (by repeat (first | (with_reducible exact HR76024_5.out) | (with_reducible refine Kd.C_alloc ?_ _) | (with_reducible refine Kd.C_drewN ?_ _) | (with_reducible refine Kd.C_drew ?_) | exact HR76024_5.out)) hb)
                                                  have n10_ := Aside0.mk (Kd.C_below (by repeat (first | (with_reducible exact HR76025_5.out) | (with_reducible refine Kd.C_alloc ?_ _) | (with_reducible refine Kd.C_drewN ?_ _) | (with_reducible refine Kd.C_drew ?_) | exact HR76025_5.out)) hb)
                                                  have n11_ := Aside0.mk (Kd.C_below (by repeat (first | (with_reducible exact HR76026_5.out) | (with_reducible refine Kd.C_alloc ?_ _) | (with_reducible refine Kd.C_drewN ?_ _) | (with_reducible refine Kd.C_drew ?_) | exact HR76026_5.out)) hb)
                                                  have n12_ := Aside0.mk (below_step (by repeat (first | (with_reducible first | exact HB.out | apply below_alloc | apply pw_below_drewN | apply below_drew1) | exact HB.out)) hb)
                                                  clear HO_0
                                                  clear HL76024_5
                                                  clear HL76025_5
                                                  clear HL76026_5
                                                  clear HO76034
                                                  clear HO76042
                                                  clear HR76001_5
                                                  clear HR76002_5
                                                  clear HR76024_5
                                                  clear HR76025_5
                                                  clear HR76026_5
                                                  clear HB
                                                  have HO_0 := n0_
                                                  have HL76024_5 := n1_
                                                  have HL76025_5 := n2_
                                                  have HL76026_5 := n3_
                                                  have HO76034 := n4_
                                                  have HO76042 := n5_
                                                  have HO76029 := n6_
                                                  have HR76001_5 := n7_
                                                  have HR76002_5 := n8_
                                                  have HR76024_5 := n9_
                                                  have HR76025_5 := n10_
                                                  have HR76026_5 := n11_
                                                  have HB := n12_
                                                  clear n0_ n1_ n2_ n3_ n4_ n5_ n6_ n7_ n8_ n9_ n10_ n11_ n12_
                                                  clear hb ho49
                                                  refine hK.out _ _ trivial (fun hHeld => ?_)
                                                  clear hK K
                                                  refine norm_ (a' := ?_) ?_ ?_
                                                  rotate_left
                                                  · show Act.put _ (some 86) _ = _
                                                    simp only [Act.put, List.setIfInBounds_toArray, List.set_cons_zero, List.set_cons_succ, i64_w, i32_w]
                                                    rfl
                                                  refine one_ (i := 4) (N := some 90) #[true, true, true, true, true, true, true, true, true, false, false, false] rfl rfl (one_of HT_.out (by kernel_rfl)) (by decide) (fun K hK => ?_)
                                                  refine Kd.N_append_rows_step k59 (w0 := w) w.heap.size (by rfl) (.tmp 86) (.tmp 89) 53 59 (.agg #[(.int .i64 0), (.int .i64 0), (.int .i64 0), (.int .i64 0), (.int .i64 0), (.slice none 0 0)]) 64 rfl Try.underlying53 info59 rfl (by decide) (by omega) v76028 y76027 y76030 _ _ _ (fun k_ => (P0_ k_ ∨ w.heap.size ≤ k_)) (fun k_ => ((fun k_ => (P0_ k_ ∨ w.heap.size ≤ k_))) k_ ∧ some k_ ≠ (v76028 : Value).ownBlock) rfl rfl ?aO ?aR (fun _ hk => hk) ?aF ?aB ?aS ?aL ?_
                                                  (case aR => exact (by skip; exact Kd.V_F (Kd.V_mono (ok' := (fun k_ => ((fun k_ => (P0_ k_ ∨ w.heap.size ≤ k_))) k_ ∧ some k_ ≠ (v76028 : Value).ownBlock)) (HO76034.out) (fun k_ hk => ⟨hk.1, hk.2⟩))))
                                                  (case aB => exact (by repeat (first | (with_reducible first | exact HB.out | apply below_alloc | apply pw_below_drewN | apply below_drew1) | exact HB.out)))
                                                  (case aF => exact (fun k_ hk => (.inr (Nat.le_trans (below_size (by repeat (first | (with_reducible first | exact HB.out | apply below_alloc | apply pw_below_drewN | apply below_drew1) | exact HB.out))) hk))))
                                                  (case aO => exact (by (with_reducible repeat (first | apply Kd.N_alloc | apply Kd.N_drewN | apply Kd.N_drew)); exact HO76029.out))
                                                  (case aS => exact (below_size (by repeat (first | (with_reducible first | exact HB.out | apply below_alloc | apply pw_below_drewN | apply below_drew1) | exact HB.out))))
                                                  (case aL => have := LMc40.out; omega)
                                                  intro v76036 w50 ho hb hg hat
                                                  rw [← Ny76035.out] at ho
                                                  have n0_ := Aside0.mk (Kd.V_afterv (ok := (fun k_ => (P0_ k_ ∨ w.heap.size ≤ k_))) (by (with_reducible repeat (first | apply Kd.V_alloc | apply Kd.V_drewN | apply Kd.V_drew)); exact HO_0.out) hg hat)
                                                  have n1_ := Aside0.mk (Kd.V_afterv (ok := (fun k_ => (P0_ k_ ∨ w.heap.size ≤ k_))) (by (with_reducible repeat (first | apply Kd.V_alloc | apply Kd.V_drewN | apply Kd.V_drew)); exact HL76024_5.out) hg hat)
                                                  have n2_ := Aside0.mk (Kd.V_afterv (ok := (fun k_ => (P0_ k_ ∨ w.heap.size ≤ k_))) (by (with_reducible repeat (first | apply Kd.V_alloc | apply Kd.V_drewN | apply Kd.V_drew)); exact HL76025_5.out) hg hat)
                                                  have n3_ := Aside0.mk (Kd.V_afterv (ok := (fun k_ => (P0_ k_ ∨ w.heap.size ≤ k_))) (by (with_reducible repeat (first | apply Kd.V_alloc | apply Kd.V_drewN | apply Kd.V_drew)); exact HL76026_5.out) hg hat)
                                                  have n4_ := Aside0.mk (Kd.V_afterv (ok := (fun k_ => (P0_ k_ ∨ w.heap.size ≤ k_))) (by (with_reducible repeat (first | apply Kd.V_alloc | apply Kd.V_drewN | apply Kd.V_drew)); exact HO76034.out) hg hat)
                                                  have n5_ := Aside0.mk (Kd.V_afterv (ok := (fun k_ => (P0_ k_ ∨ w.heap.size ≤ k_))) (by (with_reducible repeat (first | apply Kd.V_alloc | apply Kd.V_drewN | apply Kd.V_drew)); exact HO76042.out) hg hat)
                                                  have n6_ := Aside0.mk (hb)
                                                  have n7_ := Aside0.mk (ho)
                                                  clear HO_0
                                                  clear HL76024_5
                                                  clear HL76025_5
                                                  clear HL76026_5
                                                  clear HO76034
                                                  clear HO76042
                                                  clear HB
                                                  clear HO76029
                                                  have HO_0 := n0_
                                                  have HL76024_5 := n1_
                                                  have HL76025_5 := n2_
                                                  have HL76026_5 := n3_
                                                  have HO76034 := n4_
                                                  have HO76042 := n5_
                                                  have HB := n6_
                                                  have HO76037 := n7_
                                                  clear n0_ n1_ n2_ n3_ n4_ n5_ n6_ n7_
                                                  clear ho hb hg hat
                                                  refine hK.out _ _ trivial (fun hHeld => ?_)
                                                  clear hK K
                                                  refine norm_ (a' := ?_) ?_ ?_
                                                  rotate_left
                                                  · show Act.put _ (some 90) _ = _
                                                    simp only [Act.put, List.setIfInBounds_toArray, List.set_cons_zero, List.set_cons_succ, i64_w, i32_w]
                                                    rfl
                                                  refine one_ (i := 9) (N := some 95) #[true, true, true, true, true, true, true, true, true, true, false, false] rfl rfl (one_of HT_.out (by kernel_rfl)) (by decide) (fun K hK => ?_)
                                                  refine Kd.N_append_rows_step k59 (w0 := w) w.heap.size (by rfl) (.tmp 90) (.tmp 94) 53 59 (.agg #[(.int .i64 0), (.int .i64 0), (.int .i64 0), (.int .i64 0), (.int .i64 0), (.slice none 0 0)]) 64 rfl Try.underlying53 info59 rfl (by decide) (by omega) v76036 y76035 y76038 _ _ _ (fun k_ => (P0_ k_ ∨ w.heap.size ≤ k_)) (fun k_ => ((fun k_ => (P0_ k_ ∨ w.heap.size ≤ k_))) k_ ∧ some k_ ≠ (v76036 : Value).ownBlock) rfl rfl ?aO ?aR (fun _ hk => hk) ?aF ?aB ?aS ?aL ?_
                                                  (case aR => exact (by skip; exact Kd.V_F (Kd.V_mono (ok' := (fun k_ => ((fun k_ => (P0_ k_ ∨ w.heap.size ≤ k_))) k_ ∧ some k_ ≠ (v76036 : Value).ownBlock)) (HO76042.out) (fun k_ hk => ⟨hk.1, hk.2⟩))))
                                                  (case aB => exact (by repeat (first | (with_reducible first | exact HB.out | apply below_alloc | apply pw_below_drewN | apply below_drew1) | exact HB.out)))
                                                  (case aF => exact (fun k_ hk => (.inr (Nat.le_trans (below_size (by repeat (first | (with_reducible first | exact HB.out | apply below_alloc | apply pw_below_drewN | apply below_drew1) | exact HB.out))) hk))))
                                                  (case aO => exact (by (with_reducible repeat (first | apply Kd.N_alloc | apply Kd.N_drewN | apply Kd.N_drew)); exact HO76037.out))
                                                  (case aS => exact (below_size (by repeat (first | (with_reducible first | exact HB.out | apply below_alloc | apply pw_below_drewN | apply below_drew1) | exact HB.out))))
                                                  (case aL => have := LMc44.out; omega)
                                                  intro v76044 w51 ho hb hg hat
                                                  rw [← Ny76043.out] at ho
                                                  have n0_ := Aside0.mk (Kd.V_afterv (ok := (fun k_ => (P0_ k_ ∨ w.heap.size ≤ k_))) (by (with_reducible repeat (first | apply Kd.V_alloc | apply Kd.V_drewN | apply Kd.V_drew)); exact HO_0.out) hg hat)
                                                  have n1_ := Aside0.mk (Kd.V_afterv (ok := (fun k_ => (P0_ k_ ∨ w.heap.size ≤ k_))) (by (with_reducible repeat (first | apply Kd.V_alloc | apply Kd.V_drewN | apply Kd.V_drew)); exact HL76024_5.out) hg hat)
                                                  have n2_ := Aside0.mk (Kd.V_afterv (ok := (fun k_ => (P0_ k_ ∨ w.heap.size ≤ k_))) (by (with_reducible repeat (first | apply Kd.V_alloc | apply Kd.V_drewN | apply Kd.V_drew)); exact HL76025_5.out) hg hat)
                                                  have n3_ := Aside0.mk (Kd.V_afterv (ok := (fun k_ => (P0_ k_ ∨ w.heap.size ≤ k_))) (by (with_reducible repeat (first | apply Kd.V_alloc | apply Kd.V_drewN | apply Kd.V_drew)); exact HL76026_5.out) hg hat)
                                                  have n4_ := Aside0.mk (Kd.V_afterv (ok := (fun k_ => (P0_ k_ ∨ w.heap.size ≤ k_))) (by (with_reducible repeat (first | apply Kd.V_alloc | apply Kd.V_drewN | apply Kd.V_drew)); exact HO76034.out) hg hat)
                                                  have n5_ := Aside0.mk (Kd.V_afterv (ok := (fun k_ => (P0_ k_ ∨ w.heap.size ≤ k_))) (by (with_reducible repeat (first | apply Kd.V_alloc | apply Kd.V_drewN | apply Kd.V_drew)); exact HO76042.out) hg hat)
                                                  have n6_ := Aside0.mk (hb)
                                                  have n7_ := Aside0.mk (ho)
                                                  clear HO_0
                                                  clear HL76024_5
                                                  clear HL76025_5
                                                  clear HL76026_5
                                                  clear HO76034
                                                  clear HO76042
                                                  clear HB
                                                  clear HO76037
                                                  have HO_0 := n0_
                                                  have HL76024_5 := n1_
                                                  have HL76025_5 := n2_
                                                  have HL76026_5 := n3_
                                                  have HO76034 := n4_
                                                  have HO76042 := n5_
                                                  have HB := n6_
                                                  have HO76045 := n7_
                                                  clear n0_ n1_ n2_ n3_ n4_ n5_ n6_ n7_
                                                  clear ho hb hg hat
                                                  refine hK.out _ _ trivial (fun hHeld => ?_)
                                                  clear hK K
                                                  refine norm_ (a' := ?_) ?_ ?_
                                                  rotate_left
                                                  · show Act.put _ (some 95) _ = _
                                                    simp only [Act.put, List.setIfInBounds_toArray, List.set_cons_zero, List.set_cons_succ, i64_w, i32_w]
                                                    rfl
                                                  refine pure_ (i := 10) (N := some 2) (v := ?_) (a' := ?_) #[true, true, true, true, true, true, true, true, true, true, true, false] rfl rfl (any_of HT_.out (by kernel_rfl)) (fun _ _ _ h => h) (Or.inl ⟨by rfl, ?_⟩) ?_ ?_
                                                  rotate_left
                                                  · intro w'
                                                    go_simp
                                                    with_reducible rfl
                                                  rotate_left
                                                  · simp only [Act.put, List.setIfInBounds_toArray, List.set_cons_zero, List.set_cons_succ, i64_w, i32_w]
                                                    rfl
                                                  refine pure_ (i := 11) (N := some 3) (v := ?_) (a' := ?_) #[true, true, true, true, true, true, true, true, true, true, true, true] rfl rfl (any_of HT_.out (by kernel_rfl)) (fun _ _ _ h => h) (Or.inl ⟨by rfl, ?_⟩) ?_ ?_
                                                  rotate_left
                                                  · intro w'
                                                    go_simp
                                                    with_reducible rfl
                                                  rotate_left
                                                  · simp only [Act.put, List.setIfInBounds_toArray, List.set_cons_zero, List.set_cons_succ, i64_w, i32_w]
                                                    rfl
                                                  refine done_ (done_of HT_.out (by kernel_rfl)) ?_
                                                  try go_wp2
                                                  go_ret2
                                                  exact ⟨_, by first | rfl | (simp [errW_none, errW_some] <;> rfl) | (simp only [← hji5, ← hji31, ← hji35, ← hji41]; first | rfl | (simp [errW_none, errW_some] <;> rfl)) | (simp [*, errW_none, errW_some] <;> rfl), Kd.N_V (by (with_reducible repeat (first | apply Kd.N_alloc | apply Kd.N_drewN | apply Kd.N_drew)); exact HO76045.out), by repeat (first | (with_reducible first | exact HB.out | apply below_alloc | apply pw_below_drewN | apply below_drew1) | exact HB.out)⟩
                                                · rw [if_neg c44] at H
                                                  exact absurd H (by simp)
                                              · rw [if_neg c43] at H
                                                exact absurd H (by simp)
                                            · rw [if_neg c42] at H
                                              exact absurd H (by simp)
                                          · rw [if_neg c40] at H
                                            exact absurd H (by simp)
                                        · rw [if_neg c39] at H
                                          exact absurd H (by simp)
                                      · rw [if_neg c37] at H
                                        have c37b0 : (((rd_T59 l0 (ji35)).f0) == 1) = false := beq_eq_false_iff_ne.mpr c37
                                        have c37b1 : (((rd_T59 l0 (ji35)).f0) != 1) = true := bne_iff_ne.mpr c37
                                        have H' := Aside0.mk H
                                        clear H
                                        have p76024 : 0 ≤ (x4_1 : Int) := of_decide_eq_true (by first | (with_reducible assumption) | assumption)
                                        have q76024 : x4_1 < (l0.length : Int) := of_decide_eq_true (by first | (with_reducible assumption) | assumption)
                                        obtain ⟨ad76024, A76024_5, c76024_5, e76024, hx76024_0, hx76024_1, hx76024_2, hx76024_3, hx76024_4, hx76024_5, hl76024_5, hi76024_5⟩ := at_T59 (Kd.V_reads' HO_0.out).2.2 x4_1 p76024 q76024
                                        obtain rfl : ad76001 = ad76024 := (by injection e76024)
                                        obtain ⟨ce76024, hce76024, hMe76024, hcc76024⟩ := Kd.V_get HO_0.out z59 x4_1 p76024 (by first | exact q76024 | exact of_decide_eq_true (by first | (with_reducible assumption) | assumption) | (have e_ := (Kd.V_reads' HO_0.out).1; omega))
                                        obtain ⟨ua76024_5, uc76024_5, rfl, ul76024_5, ge76024_5⟩ := k59_openF hMe76024
                                        have hv76024_5 := hcc76024 5 _ rfl
                                        rw [add_field _ _ 5 (by omega)] at hv76024_5
                                        replace hv76024_5 := Option.some.inj (hv76024_5.symm.trans hx76024_5)
                                        injection hv76024_5 with hva_ hvn_ hvc_
                                        rw [hva_] at ge76024_5
                                        rw [hvc_] at ul76024_5
                                        have HL76024_5 := Aside0.mk (show Kd.V (Kd.int .i64) 3 _ w.heap.size _ _ ((rd_T59 l0 x4_1).f2) from Kd.V_mk ul76024_5 ge76024_5)
                                        clear hva_ hvn_ hvc_ ge76024_5 ul76024_5
                                        clear hcc76024 hce76024
                                        have HR76024_5 := Aside0.mk hi76024_5
                                        have HC76024_5 := Aside0.mk hl76024_5
                                        clear hi76024_5 hl76024_5
                                        replace p76024 := eq_true p76024
                                        replace q76024 := eq_true q76024
                                        have p76025 : 0 ≤ ((ji31) : Int) := of_decide_eq_true (by first | (with_reducible assumption) | assumption)
                                        have q76025 : (ji31) < (l0.length : Int) := of_decide_eq_true (by first | (with_reducible assumption) | assumption)
                                        obtain ⟨ad76025, A76025_5, c76025_5, e76025, hx76025_0, hx76025_1, hx76025_2, hx76025_3, hx76025_4, hx76025_5, hl76025_5, hi76025_5⟩ := at_T59 (Kd.V_reads' HO_0.out).2.2 (ji31) p76025 q76025
                                        obtain rfl : ad76001 = ad76025 := (by injection e76025)
                                        obtain ⟨ce76025, hce76025, hMe76025, hcc76025⟩ := Kd.V_get HO_0.out z59 (ji31) p76025 (by first | exact q76025 | exact of_decide_eq_true (by first | (with_reducible assumption) | assumption) | (have e_ := (Kd.V_reads' HO_0.out).1; omega))
                                        obtain ⟨ua76025_5, uc76025_5, rfl, ul76025_5, ge76025_5⟩ := k59_openF hMe76025
                                        have hv76025_5 := hcc76025 5 _ rfl
                                        rw [add_field _ _ 5 (by omega)] at hv76025_5
                                        replace hv76025_5 := Option.some.inj (hv76025_5.symm.trans hx76025_5)
                                        injection hv76025_5 with hva_ hvn_ hvc_
                                        rw [hva_] at ge76025_5
                                        rw [hvc_] at ul76025_5
                                        have HL76025_5 := Aside0.mk (show Kd.V (Kd.int .i64) 3 _ w.heap.size _ _ ((rd_T59 l0 (ji31)).f2) from Kd.V_mk ul76025_5 ge76025_5)
                                        clear hva_ hvn_ hvc_ ge76025_5 ul76025_5
                                        clear hcc76025 hce76025
                                        have HR76025_5 := Aside0.mk hi76025_5
                                        have HC76025_5 := Aside0.mk hl76025_5
                                        clear hi76025_5 hl76025_5
                                        replace p76025 := eq_true p76025
                                        replace q76025 := eq_true q76025
                                        have p76026 : 0 ≤ ((ji35) : Int) := of_decide_eq_true (by first | (with_reducible assumption) | assumption)
                                        have q76026 : (ji35) < (l0.length : Int) := of_decide_eq_true (by first | (with_reducible assumption) | assumption)
                                        obtain ⟨ad76026, A76026_5, c76026_5, e76026, hx76026_0, hx76026_1, hx76026_2, hx76026_3, hx76026_4, hx76026_5, hl76026_5, hi76026_5⟩ := at_T59 (Kd.V_reads' HO_0.out).2.2 (ji35) p76026 q76026
                                        obtain rfl : ad76001 = ad76026 := (by injection e76026)
                                        obtain ⟨ce76026, hce76026, hMe76026, hcc76026⟩ := Kd.V_get HO_0.out z59 (ji35) p76026 (by first | exact q76026 | exact of_decide_eq_true (by first | (with_reducible assumption) | assumption) | (have e_ := (Kd.V_reads' HO_0.out).1; omega))
                                        obtain ⟨ua76026_5, uc76026_5, rfl, ul76026_5, ge76026_5⟩ := k59_openF hMe76026
                                        have hv76026_5 := hcc76026 5 _ rfl
                                        rw [add_field _ _ 5 (by omega)] at hv76026_5
                                        replace hv76026_5 := Option.some.inj (hv76026_5.symm.trans hx76026_5)
                                        injection hv76026_5 with hva_ hvn_ hvc_
                                        rw [hva_] at ge76026_5
                                        rw [hvc_] at ul76026_5
                                        have HL76026_5 := Aside0.mk (show Kd.V (Kd.int .i64) 3 _ w.heap.size _ _ ((rd_T59 l0 (ji35)).f2) from Kd.V_mk ul76026_5 ge76026_5)
                                        clear hva_ hvn_ hvc_ ge76026_5 ul76026_5
                                        clear hcc76026 hce76026
                                        have HR76026_5 := Aside0.mk hi76026_5
                                        have HC76026_5 := Aside0.mk hl76026_5
                                        clear hi76026_5 hl76026_5
                                        replace p76026 := eq_true p76026
                                        replace q76026 := eq_true q76026
                                        go_wp2
                                        go_roundg kj6
                                        case measure => have := HK1.out; have := HJ6.out; omega
                                        case rel => exact ⟨(wrap64 (x4_1 + 1)), (by first | rfl | (simp; done) | (simp [*]; done)), H', ⟨by have := HK1.out; have := HJ6.out; omega⟩, ⟨by (with_reducible repeat (first | apply Kd.V_alloc | apply Kd.V_drewN | apply Kd.V_drew)); exact HO_0.out⟩, ⟨by repeat (first | (with_reducible first | exact HB.out | apply below_alloc | apply pw_below_drewN | apply below_drew1) | exact HB.out)⟩⟩
                                    · rw [if_neg c36] at H
                                      exact absurd H (by simp)
                                  · rw [if_neg c34] at H
                                    have c34b0 : (((rd_T59 l0 (ji31)).f0) == 1) = false := beq_eq_false_iff_ne.mpr c34
                                    have c34b1 : (((rd_T59 l0 (ji31)).f0) != 1) = true := bne_iff_ne.mpr c34
                                    have H' := Aside0.mk H
                                    clear H
                                    have p76024 : 0 ≤ (x4_1 : Int) := of_decide_eq_true (by first | (with_reducible assumption) | assumption)
                                    have q76024 : x4_1 < (l0.length : Int) := of_decide_eq_true (by first | (with_reducible assumption) | assumption)
                                    obtain ⟨ad76024, A76024_5, c76024_5, e76024, hx76024_0, hx76024_1, hx76024_2, hx76024_3, hx76024_4, hx76024_5, hl76024_5, hi76024_5⟩ := at_T59 (Kd.V_reads' HO_0.out).2.2 x4_1 p76024 q76024
                                    obtain rfl : ad76001 = ad76024 := (by injection e76024)
                                    obtain ⟨ce76024, hce76024, hMe76024, hcc76024⟩ := Kd.V_get HO_0.out z59 x4_1 p76024 (by first | exact q76024 | exact of_decide_eq_true (by first | (with_reducible assumption) | assumption) | (have e_ := (Kd.V_reads' HO_0.out).1; omega))
                                    obtain ⟨ua76024_5, uc76024_5, rfl, ul76024_5, ge76024_5⟩ := k59_openF hMe76024
                                    have hv76024_5 := hcc76024 5 _ rfl
                                    rw [add_field _ _ 5 (by omega)] at hv76024_5
                                    replace hv76024_5 := Option.some.inj (hv76024_5.symm.trans hx76024_5)
                                    injection hv76024_5 with hva_ hvn_ hvc_
                                    rw [hva_] at ge76024_5
                                    rw [hvc_] at ul76024_5
                                    have HL76024_5 := Aside0.mk (show Kd.V (Kd.int .i64) 3 _ w.heap.size _ _ ((rd_T59 l0 x4_1).f2) from Kd.V_mk ul76024_5 ge76024_5)
                                    clear hva_ hvn_ hvc_ ge76024_5 ul76024_5
                                    clear hcc76024 hce76024
                                    have HR76024_5 := Aside0.mk hi76024_5
                                    have HC76024_5 := Aside0.mk hl76024_5
                                    clear hi76024_5 hl76024_5
                                    replace p76024 := eq_true p76024
                                    replace q76024 := eq_true q76024
                                    have p76025 : 0 ≤ ((ji31) : Int) := of_decide_eq_true (by first | (with_reducible assumption) | assumption)
                                    have q76025 : (ji31) < (l0.length : Int) := of_decide_eq_true (by first | (with_reducible assumption) | assumption)
                                    obtain ⟨ad76025, A76025_5, c76025_5, e76025, hx76025_0, hx76025_1, hx76025_2, hx76025_3, hx76025_4, hx76025_5, hl76025_5, hi76025_5⟩ := at_T59 (Kd.V_reads' HO_0.out).2.2 (ji31) p76025 q76025
                                    obtain rfl : ad76001 = ad76025 := (by injection e76025)
                                    obtain ⟨ce76025, hce76025, hMe76025, hcc76025⟩ := Kd.V_get HO_0.out z59 (ji31) p76025 (by first | exact q76025 | exact of_decide_eq_true (by first | (with_reducible assumption) | assumption) | (have e_ := (Kd.V_reads' HO_0.out).1; omega))
                                    obtain ⟨ua76025_5, uc76025_5, rfl, ul76025_5, ge76025_5⟩ := k59_openF hMe76025
                                    have hv76025_5 := hcc76025 5 _ rfl
                                    rw [add_field _ _ 5 (by omega)] at hv76025_5
                                    replace hv76025_5 := Option.some.inj (hv76025_5.symm.trans hx76025_5)
                                    injection hv76025_5 with hva_ hvn_ hvc_
                                    rw [hva_] at ge76025_5
                                    rw [hvc_] at ul76025_5
                                    have HL76025_5 := Aside0.mk (show Kd.V (Kd.int .i64) 3 _ w.heap.size _ _ ((rd_T59 l0 (ji31)).f2) from Kd.V_mk ul76025_5 ge76025_5)
                                    clear hva_ hvn_ hvc_ ge76025_5 ul76025_5
                                    clear hcc76025 hce76025
                                    have HR76025_5 := Aside0.mk hi76025_5
                                    have HC76025_5 := Aside0.mk hl76025_5
                                    clear hi76025_5 hl76025_5
                                    replace p76025 := eq_true p76025
                                    replace q76025 := eq_true q76025
                                    go_wp2
                                    go_roundg kj6
                                    case measure => have := HK1.out; have := HJ6.out; omega
                                    case rel => exact ⟨(wrap64 (x4_1 + 1)), (by first | rfl | (simp; done) | (simp [*]; done)), H', ⟨by have := HK1.out; have := HJ6.out; omega⟩, ⟨by (with_reducible repeat (first | apply Kd.V_alloc | apply Kd.V_drewN | apply Kd.V_drew)); exact HO_0.out⟩, ⟨by repeat (first | (with_reducible first | exact HB.out | apply below_alloc | apply pw_below_drewN | apply below_drew1) | exact HB.out)⟩⟩
                                · rw [if_neg c33] at H
                                  exact absurd H (by simp)
                              · rw [if_neg c32] at H
                                exact absurd H (by simp)
                            · rw [if_neg c30] at H
                              have c30b0 : (((rd_T59 l0 x4_1).f0) == ((rd_T59 l0 (ji5)).f0)) = false := by simpa using c30
                              (try (have c30b1 : decide (((rd_T59 l0 x4_1).f0) = ((rd_T59 l0 (ji5)).f0)) = false := by simpa using c30))
                              (try (have c30b2 : (((rd_T59 l0 x4_1).f0) == ((rd_T59 l0 (ji5)).f0)) = false := by simpa using c30))
                              (try (have c30b3 : ¬ (((rd_T59 l0 x4_1).f0) = ((rd_T59 l0 (ji5)).f0)) := by simpa using c30))
                              clear c30
                              have H' := Aside0.mk H
                              clear H
                              have p76024 : 0 ≤ (x4_1 : Int) := of_decide_eq_true (by first | (with_reducible assumption) | assumption)
                              have q76024 : x4_1 < (l0.length : Int) := of_decide_eq_true (by first | (with_reducible assumption) | assumption)
                              obtain ⟨ad76024, A76024_5, c76024_5, e76024, hx76024_0, hx76024_1, hx76024_2, hx76024_3, hx76024_4, hx76024_5, hl76024_5, hi76024_5⟩ := at_T59 (Kd.V_reads' HO_0.out).2.2 x4_1 p76024 q76024
                              obtain rfl : ad76001 = ad76024 := (by injection e76024)
                              obtain ⟨ce76024, hce76024, hMe76024, hcc76024⟩ := Kd.V_get HO_0.out z59 x4_1 p76024 (by first | exact q76024 | exact of_decide_eq_true (by first | (with_reducible assumption) | assumption) | (have e_ := (Kd.V_reads' HO_0.out).1; omega))
                              obtain ⟨ua76024_5, uc76024_5, rfl, ul76024_5, ge76024_5⟩ := k59_openF hMe76024
                              have hv76024_5 := hcc76024 5 _ rfl
                              rw [add_field _ _ 5 (by omega)] at hv76024_5
                              replace hv76024_5 := Option.some.inj (hv76024_5.symm.trans hx76024_5)
                              injection hv76024_5 with hva_ hvn_ hvc_
                              rw [hva_] at ge76024_5
                              rw [hvc_] at ul76024_5
                              have HL76024_5 := Aside0.mk (show Kd.V (Kd.int .i64) 3 _ w.heap.size _ _ ((rd_T59 l0 x4_1).f2) from Kd.V_mk ul76024_5 ge76024_5)
                              clear hva_ hvn_ hvc_ ge76024_5 ul76024_5
                              clear hcc76024 hce76024
                              have HR76024_5 := Aside0.mk hi76024_5
                              have HC76024_5 := Aside0.mk hl76024_5
                              clear hi76024_5 hl76024_5
                              replace p76024 := eq_true p76024
                              replace q76024 := eq_true q76024
                              go_wp2
                              go_roundg kj6
                              case measure => have := HK1.out; have := HJ6.out; omega
                              case rel => exact ⟨(wrap64 (x4_1 + 1)), (by first | rfl | (simp; done) | (simp [*]; done)), H', ⟨by have := HK1.out; have := HJ6.out; omega⟩, ⟨by (with_reducible repeat (first | apply Kd.V_alloc | apply Kd.V_drewN | apply Kd.V_drew)); exact HO_0.out⟩, ⟨by repeat (first | (with_reducible first | exact HB.out | apply below_alloc | apply pw_below_drewN | apply below_drew1) | exact HB.out)⟩⟩
                          · rw [if_neg c29] at H
                            have c29b0 : (((rd_T59 l0 x4_1).f0) == 1) = false := beq_eq_false_iff_ne.mpr c29
                            have c29b1 : (((rd_T59 l0 x4_1).f0) != 1) = true := bne_iff_ne.mpr c29
                            have H' := Aside0.mk H
                            clear H
                            have p76024 : 0 ≤ (x4_1 : Int) := of_decide_eq_true (by first | (with_reducible assumption) | assumption)
                            have q76024 : x4_1 < (l0.length : Int) := of_decide_eq_true (by first | (with_reducible assumption) | assumption)
                            obtain ⟨ad76024, A76024_5, c76024_5, e76024, hx76024_0, hx76024_1, hx76024_2, hx76024_3, hx76024_4, hx76024_5, hl76024_5, hi76024_5⟩ := at_T59 (Kd.V_reads' HO_0.out).2.2 x4_1 p76024 q76024
                            obtain rfl : ad76001 = ad76024 := (by injection e76024)
                            obtain ⟨ce76024, hce76024, hMe76024, hcc76024⟩ := Kd.V_get HO_0.out z59 x4_1 p76024 (by first | exact q76024 | exact of_decide_eq_true (by first | (with_reducible assumption) | assumption) | (have e_ := (Kd.V_reads' HO_0.out).1; omega))
                            obtain ⟨ua76024_5, uc76024_5, rfl, ul76024_5, ge76024_5⟩ := k59_openF hMe76024
                            have hv76024_5 := hcc76024 5 _ rfl
                            rw [add_field _ _ 5 (by omega)] at hv76024_5
                            replace hv76024_5 := Option.some.inj (hv76024_5.symm.trans hx76024_5)
                            injection hv76024_5 with hva_ hvn_ hvc_
                            rw [hva_] at ge76024_5
                            rw [hvc_] at ul76024_5
                            have HL76024_5 := Aside0.mk (show Kd.V (Kd.int .i64) 3 _ w.heap.size _ _ ((rd_T59 l0 x4_1).f2) from Kd.V_mk ul76024_5 ge76024_5)
                            clear hva_ hvn_ hvc_ ge76024_5 ul76024_5
                            clear hcc76024 hce76024
                            have HR76024_5 := Aside0.mk hi76024_5
                            have HC76024_5 := Aside0.mk hl76024_5
                            clear hi76024_5 hl76024_5
                            replace p76024 := eq_true p76024
                            replace q76024 := eq_true q76024
                            go_wp2
                            go_roundg kj6
                            case measure => have := HK1.out; have := HJ6.out; omega
                            case rel => exact ⟨(wrap64 (x4_1 + 1)), (by first | rfl | (simp; done) | (simp [*]; done)), H', ⟨by have := HK1.out; have := HJ6.out; omega⟩, ⟨by (with_reducible repeat (first | apply Kd.V_alloc | apply Kd.V_drewN | apply Kd.V_drew)); exact HO_0.out⟩, ⟨by repeat (first | (with_reducible first | exact HB.out | apply below_alloc | apply pw_below_drewN | apply below_drew1) | exact HB.out)⟩⟩
                        · rw [if_neg c28] at H
                          exact absurd H (by simp)
                      · rw [if_neg c27] at H
                        exact absurd H (by simp)
                    · rw [if_neg c26] at H
                      have c26b0 : decide ((wrap64 (x4_1 + 3)) < (l0.length : Int)) = false := decide_eq_false c26
                      clear c26
                      have H' := Aside0.mk H
                      clear H
                      go_wp2
                      go_roundg kj6
                      case measure => have := HK1.out; have := HJ6.out; omega
                      case rel => exact ⟨(wrap64 (x4_1 + 1)), (by first | rfl | (simp; done) | (simp [*]; done)), H', ⟨by have := HK1.out; have := HJ6.out; omega⟩, ⟨by (with_reducible repeat (first | apply Kd.V_alloc | apply Kd.V_drewN | apply Kd.V_drew)); exact HO_0.out⟩, ⟨by repeat (first | (with_reducible first | exact HB.out | apply below_alloc | apply pw_below_drewN | apply below_drew1) | exact HB.out)⟩⟩
            · rw [if_neg c6] at H
              exact absurd H (by simp)
          · rw [if_neg c4] at H
            exact absurd H (by simp)
        · rw [if_neg c3] at H
          exact absurd H (by simp)
      · rw [if_neg c2] at H
        have c2b0 : decide ((wrap64 (x4_1 + 1)) < (l0.length : Int)) = false := decide_eq_false c2
        clear c2
        simp only [Option.some.injEq, Prod.mk.injEq] at H
        obtain ⟨rfl, rfl⟩ := H
        go_wp2
        go_ret2
        exact ⟨_, by first | rfl | (simp [errW_none, errW_some] <;> rfl) | (simp [*, errW_none, errW_some] <;> rfl), by (with_reducible repeat (first | apply Kd.V_alloc | apply Kd.V_drewN | apply Kd.V_drew)); exact HO_0.out, by repeat (first | (with_reducible first | exact HB.out | apply below_alloc | apply pw_below_drewN | apply below_drew1) | exact HB.out)⟩

end Go.Proofs.Ytgfjccegehnjcaa.Q

/- Plain words: numbers that do not wrap, elements of lists, rounds that are enough. -/
namespace Go.Proofs.Ytgfjccegehnjcaa.Pure
open Go.RowKit Go.Proofs.Ytgfjccegehnjcaa.Q Go.Proofs.YtgfjccegehnjcaaW.PrintWords Go.Proofs.YtgfjccegehnjcaaW.PrintLast Go.Proofs.YtgfjccegehnjcaaW.PrintMore
set_option linter.unusedVariables false
set_option linter.unusedSimpArgs false

theorem w64 {x : Int} (h1 : -9223372036854775808 ≤ x) (h2 : x ≤ 9223372036854775807) : wrap64 x = x := by unfold wrap64; omega
theorem w64n (n : Nat) (h : n < 9223372036854775807) : wrap64 ((n : Int) + 1) = ((n + 1 : Nat) : Int) := by unfold wrap64; omega
theorem rd_nat (l : List Int) (i : Nat) (h : i < l.length) : rd l (i : Int) = l[i] := by simp [rd, h]
theorem tdiv_nn (a b : Int) (h : 0 ≤ a) : Int.tdiv a b = a / b := Int.tdiv_eq_ediv_of_nonneg h
theorem tmod_nn (a b : Int) (h : 0 ≤ a) : Int.tmod a b = a % b := Int.tmod_eq_emod_of_nonneg h
/-- From K rounds on. -/
theorem ev_of {α : Type} {g : Nat → Option α} {r : α} (K : Nat) (h : ∀ k, K < k → g k = some r) : Ev g r := ⟨K + 1, fun k hk => h k (by omega)⟩
theorem ev_const {α : Type} {o : Option α} {r : α} (h : o = some r) : Ev (fun _ => o) r := ⟨0, fun _ _ => h⟩
theorem ev_bind {α β : Type} {g : Nat → Option α} {f : Nat → α → Option β} {a : α} {r : β} (h : Ev g a) (k : Ev (fun n => f n a) r) : Ev (fun n => (g n).bind (f n)) r := Ev.bind h k
theorem ev_now {α β : Type} {o : Option α} {f : Nat → α → Option β} {a : α} {r : β} (h : o = some a) (k : Ev (fun n => f n a) r) : Ev (fun n => o.bind (f n)) r := Ev.bind (ev_const h) k
theorem ev_pos {α : Type} {c : Prop} [Decidable c] {f g : Nat → Option α} {r : α} (h : c) (k : Ev f r) : Ev (fun n => if c then f n else g n) r := by
  simpa [h] using k
theorem ev_neg {α : Type} {c : Prop} [Decidable c] {f g : Nat → Option α} {r : α} (h : ¬ c) (k : Ev g r) : Ev (fun n => if c then f n else g n) r := by
  simpa [h] using k
/-- The same, from some number of rounds on: for loops in loops. -/
theorem ev_up {σ ρ : Type} (n : Nat) (L : Nat → Nat → σ → Option ρ) (Inv : Nat → σ → Prop) (F : Nat → σ → ρ)
    (step : ∀ i s, i < n → Inv i s → Ev (fun k => L k i s) (F i s) ∨ ∃ s', (∀ k, L (k + 1) i s = L k (i + 1) s') ∧ Inv (i + 1) s' ∧ F (i + 1) s' = F i s)
    (last : ∀ s, Inv n s → Ev (fun k => L k n s) (F n s)) :
    ∀ d i s, i + d = n → Inv i s → Ev (fun k => L k i s) (F i s) := by
  intro d
  induction d with
  | zero =>
    intro i s hi hinv
    have : i = n := by omega
    subst this
    exact last s hinv
  | succ d ih =>
    intro i s hi hinv
    rcases step i s (by omega) hinv with h | ⟨s', h, hi', hF⟩
    · exact h
    · rw [← hF]
      exact Ev.step h (ih (i + 1) s' (by omega) hi')
theorem ev_val {α : Type} {g : Nat → Option α} {r r' : α} (h : Ev g r) (e : r = r') : Ev g r' := e ▸ h
theorem take_set {α : Type} (s : List α) (i : Nat) (c : α) (h : i < s.length) : (s.set i c).take (i + 1) = s.take i ++ [c] := by
  rw [List.take_succ_eq_append_getElem (by simpa using h), List.take_set_of_le (Nat.le_refl i)]
  simp

/- The reader of draws: whatever the code's bytes are, it answers, in range. -/

/-- What a reader reads from: at most 2000 bytes. -/
def Bytes (b : List Int) : Prop := b.length ≤ 2000 ∧ ∀ x ∈ b, 0 ≤ x ∧ x ≤ 255
theorem Bytes.rd_ {b : List Int} (h : Bytes b) (i : Int) : 0 ≤ rd b i ∧ rd b i ≤ 255 := by
  unfold rd
  by_cases c : i.toNat < b.length
  · rw [List.getD_eq_getElem?_getD, List.getElem?_eq_getElem c]; exact h.2 _ (List.getElem_mem c)
  · rw [List.getD_eq_getElem?_getD, List.getElem?_eq_none (by omega)]; simp
theorem xor_nn (a b : Int) (ha : 0 ≤ a) (ha' : a < 4611686018427387904) (hb : 0 ≤ b) (hb' : b < 4611686018427387904) : 0 ≤ Go.bits .xor .i64 a b := by
  obtain ⟨a, rfl⟩ := Int.eq_ofNat_of_zero_le ha
  obtain ⟨b, rfl⟩ := Int.eq_ofNat_of_zero_le hb
  have ha2 : a < 2 ^ 62 := by have : (2 : Nat) ^ 62 = 4611686018427387904 := by decide +kernel
                              omega
  have hb2 : b < 2 ^ 62 := by have : (2 : Nat) ^ 62 = 4611686018427387904 := by decide +kernel
                              omega
  have e64 : IntKind.bits .i64 = 64 := rfl
  have hx := Nat.xor_lt_two_pow ha2 hb2
  have h62 : (2 : Nat) ^ 62 = 4611686018427387904 := by decide +kernel
  have h64 : (2 : Nat) ^ 64 = 18446744073709551616 := by decide +kernel
  simp only [Go.bits, BitVec.ofInt_natCast, BitVec.toNat_xor, BitVec.toNat_ofNat, e64]
  rw [Nat.mod_eq_of_lt (by omega), Nat.mod_eq_of_lt (by omega), IntKind.wrap_i64]
  generalize a ^^^ b = z at *
  omega
theorem tmod_range (x n : Int) (hx : 0 ≤ x) (hn : 1 ≤ n) : 0 ≤ Int.tmod x n ∧ Int.tmod x n < n := by
  rw [tmod_nn _ _ hx]
  exact ⟨Int.emod_nonneg _ (by omega), Int.emod_lt_of_pos _ (by omega)⟩
theorem pick_at (b : List Int) (p n : Int) (hb : Bytes b) (hp0 : 0 ≤ p) (hp : p ≤ 1000000000000) :
    ∃ v, (∀ k, 0 < k → spec_reader_pick.f k b p n = some (v, p + 1)) ∧ 0 ≤ v ∧ (1 ≤ n → v < n) ∧ (n < 1 → v = 0) := by
  by_cases hn : n < 1
  · refine ⟨0, fun k hk => ?_, by omega, by omega, fun _ => rfl⟩
    obtain ⟨k, rfl⟩ : ∃ m, k = m + 1 := ⟨k - 1, by omega⟩
    unfold spec_reader_pick.f
    rw [if_pos hn, w64 (by omega) (by omega)]
    simp only [spec_reader_pick.j0, if_true]
  by_cases he : b.length = 0
  · refine ⟨0, fun k hk => ?_, by omega, by omega, fun _ => rfl⟩
    obtain ⟨k, rfl⟩ : ∃ m, k = m + 1 := ⟨k - 1, by omega⟩
    unfold spec_reader_pick.f
    rw [if_neg hn, w64 (by omega) (by omega)]
    simp only [spec_reader_pick.j0, he]; simp
  have hlen := hb.1
  by_cases hlt : p < (b.length : Int)
  · have hr := hb.rd_ p
    have ht := tmod_range (rd b p) n hr.1 (by omega)
    refine ⟨Int.tmod (rd b p) n, fun k hk => ?_, ht.1, fun _ => ht.2, by omega⟩
    obtain ⟨k, rfl⟩ : ∃ m, k = m + 1 := ⟨k - 1, by omega⟩
    unfold spec_reader_pick.f
    rw [if_neg hn, w64 (x := p + 1) (by omega) (by omega)]
    simp only [spec_reader_pick.j0]
    rw [if_neg (by simp only [beq_iff_eq]; omega), w64 (x := p + 1 - 1) (by omega) (by omega), show p + 1 - 1 = p by omega, if_pos hlt, if_pos hp0, if_neg (by omega), w64 (x := rd b p) (by omega) (by omega)]
  · have h1 := tmod_range p (b.length : Int) hp0 (by omega)
    have h2 := tmod_range (p * 7 + 3) (b.length : Int) (by omega) (by omega)
    have r1 := hb.rd_ (Int.tmod p (b.length : Int))
    have r2 := hb.rd_ (Int.tmod (p * 7 + 3) (b.length : Int))
    have hd : 0 ≤ Int.tdiv p (b.length : Int) ∧ Int.tdiv p (b.length : Int) ≤ p := by
      rw [tdiv_nn _ _ hp0]
      exact ⟨Int.ediv_nonneg hp0 (by omega), Int.ediv_le_self _ hp0⟩
    generalize h1e : Int.tmod p (b.length : Int) = t1 at *
    generalize h2e : Int.tmod (p * 7 + 3) (b.length : Int) = t2 at *
    generalize hde : Int.tdiv p (b.length : Int) = d at *
    generalize hr1e : rd b t1 = x1 at *
    generalize hr2e : rd b t2 = x2 at *
    have hx := xor_nn (x1 * 131 + x2 * 1117 + p * 29 + d * 53) ((x1 * 131 + x2 * 1117 + p * 29 + d * 53) / 64) (by omega) (by omega) (by omega) (by omega)
    have ht := tmod_range _ n hx (by omega)
    refine ⟨Int.tmod (Go.bits .xor .i64 (x1 * 131 + x2 * 1117 + p * 29 + d * 53) ((x1 * 131 + x2 * 1117 + p * 29 + d * 53) / 64)) n, fun k hk => ?_, ht.1, fun _ => ht.2, by omega⟩
    obtain ⟨k, rfl⟩ : ∃ m, k = m + 1 := ⟨k - 1, by omega⟩
    unfold spec_reader_pick.f
    rw [if_neg hn, w64 (x := p + 1) (by omega) (by omega)]
    simp only [spec_reader_pick.j0]
    rw [if_neg (by simp only [beq_iff_eq]; omega), w64 (x := p + 1 - 1) (by omega) (by omega), show p + 1 - 1 = p by omega, if_neg hlt, if_neg (by omega),
      w64 (x := p * 7) (by omega) (by omega), w64 (x := p * 7 + 3) (by omega) (by omega), h1e, h2e, hde, hr1e, hr2e, if_pos (by omega), if_pos (by omega), if_pos (by omega), if_pos (by omega), if_neg (by omega),
      w64 (x := x1) (by omega) (by omega), w64 (x := x2) (by omega) (by omega), w64 (x := d) (by omega) (by omega), w64 (x := x1 * 131) (by omega) (by omega), w64 (x := x2 * 1117) (by omega) (by omega), w64 (x := p * 29) (by omega) (by omega), w64 (x := d * 53) (by omega) (by omega),
      w64 (x := x1 * 131 + x2 * 1117) (by omega) (by omega), w64 (x := x1 * 131 + x2 * 1117 + p * 29) (by omega) (by omega), w64 (x := x1 * 131 + x2 * 1117 + p * 29 + d * 53) (by omega) (by omega), tdiv_nn _ 64 (by omega),
      w64 (x := (x1 * 131 + x2 * 1117 + p * 29 + d * 53) / 64) (by omega) (by omega)]
theorem one_at (b : List Int) (p : Int) (l : List Int) (hl : 0 < l.length) (hl' : l.length ≤ 1000) (hb : Bytes b) (hp0 : 0 ≤ p) (hp : p ≤ 1000000000000) :
    ∃ v, (∀ k, 0 < k → spec_reader_one.f k b p l = some (v, p + 1)) ∧ v ∈ l := by
  obtain ⟨v, hv, h0, h1, _⟩ := pick_at b p (l.length : Int) hb hp0 hp
  have h1' := h1 (by omega)
  obtain ⟨v, rfl⟩ := Int.eq_ofNat_of_zero_le h0
  refine ⟨l[v]'(by omega), fun k hk => ?_, List.getElem_mem _⟩
  unfold spec_reader_one.f
  rw [hv k hk]
  simp only [Option.bind_some]
  rw [if_pos (by omega), if_pos (by omega), rd_nat l v (by omega)]
theorem newReader_at (l : List Int) (h : ∀ x ∈ l, 0 ≤ x ∧ x ≤ 255) : ∃ b, spec_newReader.f l = some (b, 0) ∧ Bytes b := by
  unfold spec_newReader.f
  by_cases c : (l.length : Int) > 2000
  · rw [if_pos c, if_pos (by omega)]
    exact ⟨_, rfl, by rw [List.length_take]; omega, fun x hx => h x (List.mem_of_mem_take hx)⟩
  · rw [if_neg c]
    exact ⟨_, rfl, by omega, h⟩
/-- What a law is told of its code: bytes. -/
theorem code_bytes (l : List Int) (h : ∀ x ∈ l, (Lit.int .u8 x).wf = true) : ∀ x ∈ l, 0 ≤ x ∧ x ≤ 255 := by
  intro x hx
  have := h x hx
  simp only [Lit.wf, Bool.and_eq_true, decide_eq_true_eq] at this
  have e1 : IntKind.min .u8 = 0 := by decide
  have e2 : IntKind.max .u8 = 255 := by decide
  omega

/- Images: valid ones, as the program and the reference have it; copies of lists of numbers. -/

theorem shape_prod {w h p : Int} (hs : 1 ≤ w ∧ w ≤ 16 ∧ 1 ≤ h ∧ h ≤ 16 ∧ 1 ≤ p ∧ p ≤ 4) : 0 ≤ w * h ∧ w * h ≤ 256 ∧ 0 ≤ w * h * p ∧ w * h * p ≤ 1024 := by
  have h1 : 0 ≤ w * h := Int.mul_nonneg (by omega) (by omega)
  have h2 : w * h ≤ 16 * 16 := Int.mul_le_mul (by omega) (by omega) (by omega) (by omega)
  have h3 : 0 ≤ w * h * p := Int.mul_nonneg h1 (by omega)
  have h4 : w * h * p ≤ 256 * 4 := Int.mul_le_mul (by omega) (by omega) (by omega) (by omega)
  omega
theorem shape_wrap {w h p : Int} (hs : 1 ≤ w ∧ w ≤ 16 ∧ 1 ≤ h ∧ h ≤ 16 ∧ 1 ≤ p ∧ p ≤ 4) : wrap64 (wrap64 (w * h) * p) = w * h * p := by
  have := shape_prod hs
  rw [w64 (x := w * h) (by omega) (by omega), w64 (by omega) (by omega)]

/- Images that are drawn from bytes. -/

theorem one_in (b : List Int) (p : Int) (l : List Int) (hl : 0 < l.length) (hl' : l.length ≤ 1000) (hb : Bytes b) (hp0 : 0 ≤ p) (hp : p ≤ 1000000000000) : ∃ v, Ev (fun k => spec_reader_one.f k b p l) (v, p + 1) ∧ v ∈ l := by
  obtain ⟨v, h, hv⟩ := one_at b p l hl hl' hb hp0 hp
  exact ⟨v, ev_of 0 h, hv⟩
theorem pick_in (b : List Int) (p n : Int) (hn : 1 ≤ n) (hb : Bytes b) (hp0 : 0 ≤ p) (hp : p ≤ 1000000000000) : ∃ v, Ev (fun k => spec_reader_pick.f k b p n) (v, p + 1) ∧ 0 ≤ v ∧ v < n := by
  obtain ⟨v, h, h0, h1, _⟩ := pick_at b p n hb hp0 hp
  exact ⟨v, ev_of 0 h, h0, h1 hn⟩
theorem newImage_eq (w h p : Int) (hs : 1 ≤ w ∧ w ≤ 16 ∧ 1 ≤ h ∧ h ≤ 16 ∧ 1 ≤ p ∧ p ≤ 4) : spec_newImage.f w h p = some (w, h, p, List.replicate (w * h * p).toNat 0) := by
  have := shape_prod hs
  unfold spec_newImage.f
  rw [shape_wrap hs, if_pos (by omega), if_pos (by omega)]
theorem randomLoop (b : List Int) (hb : Bytes b) (m : Int) (w h p : Int) : ∀ (n i : Nat) (x pos : Int) (d : List Int), i + n = d.length → 0 ≤ pos → pos + n ≤ 1000000000000 → d.length ≤ 1000000 →
    ∃ (d' : List Int) (q : Int), d'.length = d.length ∧ pos ≤ q ∧ q ≤ pos + n ∧ Ev (fun k => spec_randomImage.l0 k m x (i : Int) b pos w h p d) (w, h, p, d', q) := by
  intro n
  induction n with
  | zero =>
    intro i x pos d hi h0 h1 h2
    refine ⟨d, pos, rfl, by omega, by omega, ?_⟩
    refine Ev.step (f := fun _ => some (w, h, p, d, pos)) (fun k => ?_) (Ev.now _)
    simp only [spec_randomImage.l0]
    rw [if_neg (by omega)]
  | succ n ih =>
    intro i x pos d hi h0 h1 h2
    have go : ∀ (v x' pos' : Int), pos ≤ pos' → pos' ≤ pos + 1 → ∃ (d' : List Int) (q : Int), d'.length = d.length ∧ pos ≤ q ∧ q ≤ pos + ((n + 1 : Nat) : Int) ∧ Ev (fun k => spec_randomImage.l0 k m x' ((i + 1 : Nat) : Int) b pos' w h p (d.set i v)) (w, h, p, d', q) := by
      intro v x' pos' a1 a2
      obtain ⟨d', q, e1, e2, e3, e4⟩ := ih (i + 1) x' pos' (d.set i v) (by rw [List.length_set]; omega) (by omega) (by omega) (by rw [List.length_set]; omega)
      exact ⟨d', q, by rw [e1, List.length_set], by omega, by omega, e4⟩
    by_cases c0 : m = 0
    · obtain ⟨v, hv, _, _⟩ := pick_in b pos 256 (by omega) hb h0 (by omega)
      obtain ⟨d', q, e1, e2, e3, e4⟩ := go v v (pos + 1) (by omega) (by omega)
      refine ⟨d', q, e1, e2, e3, ?_⟩
      refine Ev.step (f := fun k => (spec_reader_pick.f k b pos 256).bind fun bt => if 0 ≤ (i : Int) then spec_randomImage.l0 k m bt.1 (wrap64 ((i : Int) + 1)) b bt.2 w h p (d.set (i : Int).toNat bt.1) else none) (fun k => ?_) ?_
      · simp only [spec_randomImage.l0]
        rw [if_pos (by omega), if_pos c0]
      · refine ev_bind hv (ev_pos (by omega) ?_)
        simp only [Int.toNat_natCast, w64n i (by omega)]
        exact e4
    · by_cases c1 : m = 1
      · obtain ⟨v, hv, _, _⟩ := pick_in b pos 5 (by omega) hb h0 (by omega)
        obtain ⟨d', q, e1, e2, e3, e4⟩ := go (Int.tmod (wrap64 ((wrap64 (x + v)) + 254)) 256) (Int.tmod (wrap64 ((wrap64 (x + v)) + 254)) 256) (pos + 1) (by omega) (by omega)
        refine ⟨d', q, e1, e2, e3, ?_⟩
        refine Ev.step (f := fun k => (spec_reader_pick.f k b pos 5).bind fun bt => if 0 ≤ (i : Int) then spec_randomImage.l0 k m (Int.tmod (wrap64 ((wrap64 (x + bt.1)) + 254)) 256) (wrap64 ((i : Int) + 1)) b bt.2 w h p (d.set (i : Int).toNat (Int.tmod (wrap64 ((wrap64 (x + bt.1)) + 254)) 256)) else none) (fun k => ?_) ?_
        · simp only [spec_randomImage.l0]
          rw [if_pos (by omega), if_neg c0, if_pos c1]
        · refine ev_bind hv (ev_pos (by omega) ?_)
          simp only [Int.toNat_natCast, w64n i (by omega)]
          exact e4
      · by_cases c2 : m = 2
        · obtain ⟨v, hv, _, _⟩ := pick_in b pos 4 (by omega) hb h0 (by omega)
          obtain ⟨d', q, e1, e2, e3, e4⟩ := go (wrap64 (60 * v)) (wrap64 (60 * v)) (pos + 1) (by omega) (by omega)
          refine ⟨d', q, e1, e2, e3, ?_⟩
          refine Ev.step (f := fun k => (spec_reader_pick.f k b pos 4).bind fun bt => if 0 ≤ (i : Int) then spec_randomImage.l0 k m (wrap64 (60 * bt.1)) (wrap64 ((i : Int) + 1)) b bt.2 w h p (d.set (i : Int).toNat (wrap64 (60 * bt.1))) else none) (fun k => ?_) ?_
          · simp only [spec_randomImage.l0]
            rw [if_pos (by omega), if_neg c0, if_neg c1, if_pos c2]
          · refine ev_bind hv (ev_pos (by omega) ?_)
            simp only [Int.toNat_natCast, w64n i (by omega)]
            exact e4
        · obtain ⟨d', q, e1, e2, e3, e4⟩ := go x x pos (by omega) (by omega)
          refine ⟨d', q, e1, e2, e3, Ev.step (fun k => ?_) e4⟩
          simp only [spec_randomImage.l0]
          rw [if_pos (by omega), if_neg c0, if_neg c1, if_neg c2, if_pos (by omega), Int.toNat_natCast, w64n i (by omega)]
theorem randomImage_ev (b : List Int) (pos p : Int) (hb : Bytes b) (h0 : 0 ≤ pos) (h1 : pos ≤ 100000000) (hp : 1 ≤ p ∧ p ≤ 4) :
    ∃ (w h : Int) (d : List Int) (q : Int), 1 ≤ w ∧ w ≤ 8 ∧ 1 ≤ h ∧ h ≤ 8 ∧ (d.length : Int) = w * h * p ∧ 1 ≤ d.length ∧ d.length ≤ 1024 ∧ pos ≤ q ∧ q ≤ pos + 2000 ∧ Ev (fun k => spec_randomImage.f k b pos p) (w, h, p, d, q) := by
  obtain ⟨w, hw, mw⟩ := one_in b pos [3, 4, 2, 5, 1, 8, 6] (by simp) (by simp) hb h0 (by omega)
  obtain ⟨h, hh, mh⟩ := one_in b (pos + 1) [3, 2, 4, 1, 5, 8] (by simp) (by simp) hb (by omega) (by omega)
  obtain ⟨m, hm, _, _⟩ := pick_in b (pos + 1 + 1) 4 (by omega) hb (by omega) (by omega)
  obtain ⟨x, hx, _, _⟩ := pick_in b (pos + 1 + 1 + 1) 256 (by omega) hb (by omega) (by omega)
  have bw : 1 ≤ w ∧ w ≤ 8 := by simp only [List.mem_cons, List.not_mem_nil, or_false] at mw; omega
  have bh : 1 ≤ h ∧ h ≤ 8 := by simp only [List.mem_cons, List.not_mem_nil, or_false] at mh; omega
  have hs : 1 ≤ w ∧ w ≤ 16 ∧ 1 ≤ h ∧ h ≤ 16 ∧ 1 ≤ p ∧ p ≤ 4 := by omega
  have hpr := shape_prod hs
  have hpos : 1 ≤ w * h * p := by
    have e1 : 1 * 1 ≤ w * h := Int.mul_le_mul (by omega) (by omega) (by omega) (by omega)
    have e2 : 1 * 1 ≤ w * h * p := Int.mul_le_mul (by omega) (by omega) (by omega) (by omega)
    omega
  have hlen : (List.replicate (w * h * p).toNat (0 : Int)).length = (w * h * p).toNat := List.length_replicate
  obtain ⟨d', q, e1, e2, e3, e4⟩ := randomLoop b hb m w h p (w * h * p).toNat 0 x (pos + 1 + 1 + 1 + 1) (List.replicate (w * h * p).toNat 0) (by omega) (by omega) (by omega) (by omega)
  refine ⟨w, h, d', q, bw.1, bw.2, bh.1, bh.2, by omega, by omega, by omega, by omega, by omega, ?_⟩
  unfold spec_randomImage.f
  exact ev_bind hw (ev_bind hh (ev_now (newImage_eq w h p hs) (ev_bind hm (ev_bind hx e4))))
theorem anyPlanes_ev (b : List Int) (pos : Int) (hb : Bytes b) (h0 : 0 ≤ pos) (h1 : pos ≤ 100000000) : ∃ p, 1 ≤ p ∧ p ≤ 4 ∧ Ev (fun k => spec_anyPlanes.f k b pos) (p, pos + 1) := by
  obtain ⟨p, hp, mp⟩ := one_in b pos [1, 3, 1, 4, 2] (by simp) (by simp) hb h0 (by omega)
  simp only [List.mem_cons, List.not_mem_nil, or_false] at mp
  refine ⟨p, by omega, by omega, ?_⟩
  unfold spec_anyPlanes.f
  exact ev_bind hp (Ev.now _)

/- A box that is drawn from bytes. -/

theorem anyBox_any (b : List Int) (pos : Int) (hB : Bytes b) (h0 : 0 ≤ pos) (h1 : pos ≤ 1000000) : ∃ (X Y W H : Int), Ev (fun k => spec_anyBox.f k b pos) (X, Y, W, H, pos + 1 + 1 + 1 + 1) := by
  obtain ⟨x0, g0, _⟩ := one_at b pos [0, 1, 2, (-1), 0, 4] (by simp) (by simp) hB (by omega) (by omega)
  obtain ⟨x1, g1, _⟩ := one_at b (pos + 1) [0, 1, 0, 2, (-1)] (by simp) (by simp) hB (by omega) (by omega)
  obtain ⟨x2, g2, _⟩ := one_at b (pos + 1 + 1) [1, 2, 3, 1, 0, 16] (by simp) (by simp) hB (by omega) (by omega)
  obtain ⟨x3, g3, _⟩ := one_at b (pos + 1 + 1 + 1) [1, 2, 1, 3, 0] (by simp) (by simp) hB (by omega) (by omega)
  refine ⟨x0, x1, x2, x3, ?_⟩
  unfold spec_anyBox.f
  exact ev_bind (ev_of 0 g0) (ev_bind (ev_of 0 g1) (ev_bind (ev_of 0 g2) (ev_bind (ev_of 0 g3) (Ev.now _))))

/- Steps that are drawn from bytes. -/

theorem copyI_px (l : List Int) (hl : l.length ≤ 1000000) : spec_copyInts.f l = some l := by
  unfold spec_copyInts.f
  simp only [Option.bind_some]
  rw [if_pos (by simp; omega)]
  simp
theorem spoilImage_p (b : List Int) (pos : Int) (w h p : Int) (d : List Int) (hb : Bytes b) (h0 : 0 ≤ pos) (h1 : pos ≤ 100000000) (hd : 1 ≤ d.length) (hp : 0 ≤ p ∧ p ≤ 5) :
    ∃ (w' h' p' : Int) (d' : List Int) (q : Int), d'.length ≤ d.length ∧ 0 ≤ p' ∧ p' ≤ 5 ∧ pos ≤ q ∧ q ≤ pos + 2 ∧ Ev (fun k => spec_spoilImage.f k b pos w h p d) (w', h', p', d', q) := by
  obtain ⟨v, hv, _, _⟩ := pick_in b pos 40 (by omega) hb h0 (by omega)
  unfold spec_spoilImage.f
  by_cases c0 : v = 0
  · obtain ⟨x, hx, _⟩ := one_in b (pos + 1) [0, 17, wrap64 (w + 1)] (by simp) (by simp) hb (by omega) (by omega)
    exact ⟨x, h, p, d, pos + 1 + 1, by omega, hp.1, hp.2, by omega, by omega, ev_bind hv (ev_pos c0 (ev_bind hx (Ev.now _)))⟩
  · by_cases c1 : v = 1
    · exact ⟨w, h, p, d.drop (1 : Int).toNat, pos + 1, by rw [List.length_drop]; omega, hp.1, hp.2, by omega, by omega, ev_bind hv (ev_neg c0 (ev_pos c1 (ev_pos (by omega) (Ev.now _))))⟩
    · by_cases c2 : v = 2
      · obtain ⟨x, hx, _⟩ := one_in b (pos + 1) [(-1), 256] (by simp) (by simp) hb (by omega) (by omega)
        exact ⟨w, h, p, d.set (0 : Int).toNat x, pos + 1 + 1, by rw [List.length_set]; omega, hp.1, hp.2, by omega, by omega, ev_bind hv (ev_neg c0 (ev_neg c1 (ev_pos c2 (ev_bind hx (ev_pos (by omega) (Ev.now _))))))⟩
      · by_cases c3 : v = 3
        · obtain ⟨x, hx, mx⟩ := one_in b (pos + 1) [0, 5] (by simp) (by simp) hb (by omega) (by omega)
          have bx : 0 ≤ x ∧ x ≤ 5 := by simp only [List.mem_cons, List.not_mem_nil, or_false] at mx; omega
          exact ⟨w, h, x, d, pos + 1 + 1, by omega, bx.1, bx.2, by omega, by omega, ev_bind hv (ev_neg c0 (ev_neg c1 (ev_neg c2 (ev_pos c3 (ev_bind hx (Ev.now _))))))⟩
        · exact ⟨w, h, p, d, pos + 1, by omega, hp.1, hp.2, by omega, by omega, ev_bind hv (ev_neg c0 (ev_neg c1 (ev_neg c2 (ev_neg c3 (Ev.now _)))))⟩
theorem anyImage_p (b : List Int) (pos : Int) (hb : Bytes b) (h0 : 0 ≤ pos) (h1 : pos ≤ 90000000) :
    ∃ (w h p : Int) (d : List Int) (q : Int), d.length ≤ 1024 ∧ 0 ≤ p ∧ p ≤ 5 ∧ pos ≤ q ∧ q ≤ pos + 3000 ∧ Ev (fun k => spec_anyImage.f k b pos) (w, h, p, d, q) := by
  obtain ⟨p, p1, p2, hp⟩ := anyPlanes_ev b pos hb h0 (by omega)
  obtain ⟨w, h, d, q, _, _, _, _, _, d1, d2, q1, q2, hr⟩ := randomImage_ev b (pos + 1) p hb (by omega) (by omega) ⟨p1, p2⟩
  obtain ⟨w', h', p', d', q', d3, p3, p4, q3, q4, hs⟩ := spoilImage_p b q w h p d hb (by omega) (by omega) d1 (by omega)
  refine ⟨w', h', p', d', q', by omega, p3, p4, by omega, by omega, ?_⟩
  unfold spec_anyImage.f
  exact ev_bind hp (ev_bind hr (ev_bind hs (Ev.now _)))
theorem spoil_ev (b : List Int) (pos z : Int) (l : List Int) (hb : Bytes b) (h0 : 0 ≤ pos) (h1 : pos ≤ 100000000) (hl : l.length ≤ 1000) :
    ∃ (l' : List Int) (q : Int), l'.length ≤ l.length + 1 ∧ pos ≤ q ∧ q ≤ pos + 3 ∧ Ev (fun k => spec_reader_spoil.f k b pos l z) (l', q) := by
  obtain ⟨v, hv, _, _⟩ := pick_in b pos 20 (by omega) hb h0 (by omega)
  unfold spec_reader_spoil.f
  have hc := copyI_px l (by omega)
  by_cases c0 : v = 0
  · exact ⟨l ++ [z], pos + 1, by simp, by omega, by omega, ev_now hc (ev_bind hv (ev_pos c0 (ev_pos (by omega) (Ev.now _))))⟩
  · by_cases c1 : v = 1
    · by_cases c2 : (l.length : Int) > 0
      · exact ⟨l.drop (1 : Int).toNat, pos + 1, by rw [List.length_drop]; omega, by omega, by omega, ev_now hc (ev_bind hv (ev_neg c0 (ev_pos c1 (ev_pos c2 (ev_pos (by omega) (Ev.now _))))))⟩
      · exact ⟨l, pos + 1, by omega, by omega, by omega, ev_now hc (ev_bind hv (ev_neg c0 (ev_pos c1 (ev_neg c2 (Ev.now _)))))⟩
    · by_cases c2 : v = 2
      · by_cases c3 : (l.length : Int) > 0
        · obtain ⟨i, hi, i0, i1⟩ := pick_in b (pos + 1) (l.length : Int) (by omega) hb (by omega) (by omega)
          obtain ⟨x, hx, _⟩ := one_in b (pos + 1 + 1) [(-1), z, 0, 1] (by simp) (by simp) hb (by omega) (by omega)
          exact ⟨l.set i.toNat x, pos + 1 + 1 + 1, by rw [List.length_set]; omega, by omega, by omega, ev_now hc (ev_bind hv (ev_neg c0 (ev_neg c1 (ev_pos c2 (ev_pos c3 (ev_bind hi (ev_bind hx (ev_pos i0 (ev_pos i1 (Ev.now _))))))))))⟩
        · exact ⟨l, pos + 1, by omega, by omega, by omega, ev_now hc (ev_bind hv (ev_neg c0 (ev_neg c1 (ev_pos c2 (ev_neg c3 (Ev.now _))))))⟩
      · exact ⟨l, pos + 1, by omega, by omega, by omega, ev_now hc (ev_bind hv (ev_neg c0 (ev_neg c1 (ev_neg c2 (Ev.now _)))))⟩
theorem anyPixelLoop (b : List Int) (p : Int) (hb : Bytes b) : ∀ (n i : Nat) (pos : Int) (l : List Int), (i : Int) + n = p → i + n ≤ 5 → l.length = i → 0 ≤ pos → pos + n ≤ 90000010 →
    ∃ (l' : List Int) (q : Int), l'.length ≤ 100 ∧ pos ≤ q ∧ q ≤ pos + n + 3 ∧ Ev (fun k => spec_anyPixel.l0 k p l (i : Int) b pos) (l', q) := by
  intro n
  induction n with
  | zero =>
    intro i pos l hi h5 hl h0 h1
    obtain ⟨l', q, e1, e2, e3, e4⟩ := spoil_ev b pos 256 l hb h0 (by omega) (by omega)
    refine ⟨l', q, by omega, e2, by omega, Ev.step (f := fun k => (spec_reader_spoil.f k b pos l 256).bind fun t => some (t.1, t.2)) (fun k => ?_) (ev_bind e4 (Ev.now _))⟩
    simp only [spec_anyPixel.l0]
    rw [if_neg (by omega)]
  | succ n ih =>
    intro i pos l hi h5 hl h0 h1
    obtain ⟨v, hv, _, _⟩ := pick_in b pos 256 (by omega) hb h0 (by omega)
    obtain ⟨l', q, e1, e2, e3, e4⟩ := ih (i + 1) (pos + 1) (l ++ [v]) (by omega) (by omega) (by simp [hl]) (by omega) (by omega)
    refine ⟨l', q, e1, by omega, by omega, Ev.step (f := fun k => (spec_reader_pick.f k b pos 256).bind fun t => if l.length < 17592186044416 then spec_anyPixel.l0 k p (l ++ [t.1]) ((i + 1 : Nat) : Int) b t.2 else none) (fun k => ?_) (ev_bind hv (ev_pos (by omega) e4))⟩
    simp only [spec_anyPixel.l0]
    rw [if_pos (by omega), w64n i (by omega)]
theorem anyPixel_ev (b : List Int) (pos p : Int) (hb : Bytes b) (h0 : 0 ≤ pos) (h1 : pos ≤ 90000000) (hp : 0 ≤ p ∧ p ≤ 5) :
    ∃ (l' : List Int) (q : Int), l'.length ≤ 100 ∧ pos ≤ q ∧ q ≤ pos + 8 ∧ Ev (fun k => spec_anyPixel.f k b pos p) (l', q) := by
  obtain ⟨n, rfl⟩ := Int.eq_ofNat_of_zero_le hp.1
  obtain ⟨l', q, e1, e2, e3, e4⟩ := anyPixelLoop b n hb n 0 pos [] (by omega) (by omega) rfl h0 (by omega)
  exact ⟨l', q, e1, e2, by omega, e4⟩

/- Rows of steps that are drawn from bytes. -/

theorem anyStep_q (b : List Int) (pos p : Int) (hb : Bytes b) (h0 : 0 ≤ pos) (h1 : pos ≤ 900000) (hp : 0 ≤ p ∧ p ≤ 5) :
    ∃ (kind X Y W H : Int) (pix : List Int) (q : Int), pix.length ≤ 100 ∧ pos ≤ q ∧ q ≤ pos + 50 ∧ Ev (fun k => spec_anyStep.f k b pos p) (kind, X, Y, W, H, pix, q) := by
  obtain ⟨kind, hk, _⟩ := one_in b pos [0, 1, 2, 3, 4, 0, 1, 2, 5, (-1)] (by simp) (by simp) hb h0 (by omega)
  have key : ∀ t : Bool, ∃ (X Y W H : Int) (pix : List Int) (q : Int), pix.length ≤ 100 ∧ pos ≤ q ∧ q ≤ pos + 50 ∧ Ev (fun k => spec_anyStep.j0 k p t b (pos + 1) kind 0 0 0 0) (kind, X, Y, W, H, pix, q) := by
    intro t
    cases t with
    | true =>
      obtain ⟨X, Y, W, H, hB⟩ := anyBox_any b (pos + 1) hb (by omega) (by omega)
      by_cases c : kind = 4
      · obtain ⟨l, q, e1, e2, e3, e4⟩ := anyPixel_ev b (pos + 1 + 1 + 1 + 1 + 1) p hb (by omega) (by omega) hp
        refine ⟨X, Y, W, H, l, q, e1, by omega, by omega, Ev.step (f := fun k => (spec_anyBox.f k b (pos + 1)).bind fun t => if kind = 4 then ((spec_anyPixel.f k b t.2.2.2.2 p).bind fun u => some (kind, t.1, t.2.1, t.2.2.1, t.2.2.2.1, u.1, u.2)) else some (kind, t.1, t.2.1, t.2.2.1, t.2.2.2.1, [], t.2.2.2.2)) (fun k => ?_) (ev_bind hB (ev_pos c (ev_bind e4 (Ev.now _))))⟩
        simp only [spec_anyStep.j0]
        rw [if_pos trivial]
      · refine ⟨X, Y, W, H, [], pos + 1 + 1 + 1 + 1 + 1, by simp, by omega, by omega, Ev.step (f := fun k => (spec_anyBox.f k b (pos + 1)).bind fun t => if kind = 4 then ((spec_anyPixel.f k b t.2.2.2.2 p).bind fun u => some (kind, t.1, t.2.1, t.2.2.1, t.2.2.2.1, u.1, u.2)) else some (kind, t.1, t.2.1, t.2.2.1, t.2.2.2.1, [], t.2.2.2.2)) (fun k => ?_) (ev_bind hB (ev_neg c (Ev.now _)))⟩
        simp only [spec_anyStep.j0]
        rw [if_pos trivial]
    | false =>
      by_cases c : kind = 4
      · obtain ⟨l, q, e1, e2, e3, e4⟩ := anyPixel_ev b (pos + 1) p hb (by omega) (by omega) hp
        refine ⟨0, 0, 0, 0, l, q, e1, by omega, by omega, Ev.step (f := fun k => if kind = 4 then ((spec_anyPixel.f k b (pos + 1) p).bind fun u => some (kind, (0 : Int), (0 : Int), (0 : Int), (0 : Int), u.1, u.2)) else some (kind, 0, 0, 0, 0, [], pos + 1)) (fun k => ?_) (ev_pos c (ev_bind e4 (Ev.now _)))⟩
        simp only [spec_anyStep.j0]
        rw [if_neg (by simp)]
      · refine ⟨0, 0, 0, 0, [], pos + 1, by simp, by omega, by omega, Ev.step (f := fun k => if kind = 4 then ((spec_anyPixel.f k b (pos + 1) p).bind fun u => some (kind, (0 : Int), (0 : Int), (0 : Int), (0 : Int), u.1, u.2)) else some (kind, 0, 0, 0, 0, [], pos + 1)) (fun k => ?_) (ev_neg c (Ev.now _))⟩
        simp only [spec_anyStep.j0]
        rw [if_neg (by simp)]
  unfold spec_anyStep.f
  by_cases c : kind = 3
  · obtain ⟨X, Y, W, H, pix, q, e1, e2, e3, e4⟩ := key true
    exact ⟨kind, X, Y, W, H, pix, q, e1, e2, e3, ev_bind hk (ev_pos c e4)⟩
  · obtain ⟨X, Y, W, H, pix, q, e1, e2, e3, e4⟩ := key (kind == 4)
    exact ⟨kind, X, Y, W, H, pix, q, e1, e2, e3, ev_bind hk (ev_neg c e4)⟩

abbrev StepD := S59
theorem anySteps_loop (b : List Int) (hb : Bytes b) (p : Int) (hp : 0 ≤ p ∧ p ≤ 5) : ∀ (n : Nat) (l : List StepD) (pos : Int), n ≤ 13 → 0 ≤ pos → pos ≤ 700000 - 60 * n → l.length + n ≤ 13 → (∀ s ∈ l, s.f2.length ≤ 100) →
    ∃ (l' : List StepD) (q : Int), l'.length ≤ 13 ∧ (∀ s ∈ l', s.f2.length ≤ 100) ∧ Ev (fun k => spec_anySteps.l0 k p l (n : Int) b pos) (l', q) := by
  intro n
  induction n with
  | zero => exact fun l pos _ h0 h1 hl hs => ⟨l, pos, by omega, hs, Ev.step (f := fun _ => some (l, pos)) (fun k => by simp only [spec_anySteps.l0]; rw [if_neg (by simp)]) (Ev.now _)⟩
  | succ n ih =>
    intro l pos hn h0 h1 hl hs
    obtain ⟨v, hv, v0, v1⟩ := pick_in b pos 3 (by omega) hb h0 (by omega)
    have e1 : wrap64 (((n + 1 : Nat) : Int) - 1) = (n : Int) := by rw [w64 (by omega) (by omega)]; omega
    by_cases c : v > 0
    · obtain ⟨u, hu, u0, u1⟩ := pick_in b (pos + 1) 3 (by omega) hb (by omega) (by omega)
      obtain ⟨l', q, r1, r2, r3⟩ := ih (l ++ [(⟨u, ⟨0, 0, 0, 0⟩, []⟩ : StepD)]) (pos + 1 + 1) (by omega) (by omega) (by omega) (by simp; omega) (fun s h => by
        rcases List.mem_append.1 h with h | h
        · exact hs s h
        · rw [List.mem_singleton.1 h]; simp)
      refine ⟨l', q, r1, r2, Ev.step (f := fun k => (spec_reader_pick.f k b pos 3).bind fun t => if t.1 > 0 then ((spec_reader_pick.f k b t.2 3).bind fun u => if l.length < 2199023255552 then spec_anySteps.l0 k p (l ++ [(⟨u.1, ⟨0, 0, 0, 0⟩, []⟩ : StepD)]) (n : Int) b u.2 else none) else ((spec_anyStep.f k b t.2 p).bind fun u => if l.length < 2199023255552 then spec_anySteps.l0 k p (l ++ [(⟨u.1, ⟨u.2.1, u.2.2.1, u.2.2.2.1, u.2.2.2.2.1⟩, u.2.2.2.2.2.1⟩ : StepD)]) (n : Int) b u.2.2.2.2.2.2 else none)) (fun k => ?_) (ev_bind hv (ev_pos c (ev_bind hu (ev_pos (by omega) r3))))⟩
      simp only [spec_anySteps.l0]
      rw [if_pos (by omega), e1]
    · obtain ⟨kind, X, Y, W, H, pix, q0, p1, p2, p3, hu⟩ := anyStep_q b (pos + 1) p hb (by omega) (by omega) hp
      obtain ⟨l', q, r1, r2, r3⟩ := ih (l ++ [(⟨kind, ⟨X, Y, W, H⟩, pix⟩ : StepD)]) q0 (by omega) (by omega) (by omega) (by simp; omega) (fun s h => by
        rcases List.mem_append.1 h with h | h
        · exact hs s h
        · rw [List.mem_singleton.1 h]; exact p1)
      refine ⟨l', q, r1, r2, Ev.step (f := fun k => (spec_reader_pick.f k b pos 3).bind fun t => if t.1 > 0 then ((spec_reader_pick.f k b t.2 3).bind fun u => if l.length < 2199023255552 then spec_anySteps.l0 k p (l ++ [(⟨u.1, ⟨0, 0, 0, 0⟩, []⟩ : StepD)]) (n : Int) b u.2 else none) else ((spec_anyStep.f k b t.2 p).bind fun u => if l.length < 2199023255552 then spec_anySteps.l0 k p (l ++ [(⟨u.1, ⟨u.2.1, u.2.2.1, u.2.2.2.1, u.2.2.2.2.1⟩, u.2.2.2.2.2.1⟩ : StepD)]) (n : Int) b u.2.2.2.2.2.2 else none)) (fun k => ?_) (ev_bind hv (ev_neg c (ev_bind hu (ev_pos (by omega) r3))))⟩
      simp only [spec_anySteps.l0]
      rw [if_pos (by omega), e1]
theorem drawSteps (code : List Int) (hw : ∀ x ∈ code, (Lit.int .u8 x).wf = true) : ∃ (w h p : Int) (d : List Int) (l : List StepD), d.length ≤ 1024 ∧ l.length ≤ 13 ∧ (∀ s ∈ l, s.f2.length ≤ 100) ∧ Ev (fun k => spec_DrawRunSteps.f k code) (w, h, p, d, l) := by
  obtain ⟨b, hb, hB⟩ := newReader_at code (code_bytes code hw)
  obtain ⟨w, h, p, d, q, hd, p1, p2, q1, q2, he⟩ := anyImage_p b 0 hB (by omega) (by omega)
  obtain ⟨v, hv, hm⟩ := one_in b q [2, 4, 6, 8, 1, 0, 12, 13] (by simp) (by simp) hB (by omega) (by omega)
  have hn : 0 ≤ v ∧ v ≤ 13 := by simp at hm; omega
  obtain ⟨n, rfl⟩ := Int.eq_ofNat_of_zero_le hn.1
  obtain ⟨l', q', r1, r2, r3⟩ := anySteps_loop b hB p ⟨p1, p2⟩ n [] (q + 1) (by omega) (by omega) (by omega) (by simp; omega) (fun s h => by simp at h)
  refine ⟨w, h, p, d, l', hd, r1, r2, ?_⟩
  unfold spec_DrawRunSteps.f spec_anySteps.f
  exact ev_now hb (ev_bind he (ev_bind (ev_bind hv r3) (Ev.now _)))

/- Lists of numbers and images, compared one by one. -/

theorem equalIntsC (l m : List Int) (hl : l.length ≤ 1000000) : Ev (fun k => laws_equalInts.f k l m) (decide (l = m)) := by
  unfold laws_equalInts.f
  by_cases hn : l.length = m.length
  · have key := ev_up l.length (fun k i (_ : Unit) => laws_equalInts.l0 k l m (i : Int)) (fun _ _ => True) (fun i _ => decide (l.drop i = m.drop i))
      (by
        intro i s hi _
        have e1 := List.drop_eq_getElem_cons hi
        have e2 := List.drop_eq_getElem_cons (show i < m.length by omega)
        by_cases c : l[i] = m[i]'(by omega)
        · refine .inr ⟨(), fun k => ?_, trivial, ?_⟩
          · simp only [laws_equalInts.l0]
            rw [if_pos (by omega), if_pos (by omega), if_pos (by omega), rd_nat l i hi, rd_nat m i (by omega), if_pos c, w64n i (by omega)]
          · rw [e1, e2, decide_eq_decide, List.cons.injEq]
            exact ⟨fun h => ⟨c, h⟩, fun h => h.2⟩
        · left
          rw [e1, e2, decide_eq_false (by rw [List.cons.injEq]; exact fun h => c h.1)]
          refine Ev.step (f := fun _ => some false) (fun k => ?_) (Ev.now _)
          simp only [laws_equalInts.l0]
          rw [if_pos (by omega), if_pos (by omega), if_pos (by omega), rd_nat l i hi, rd_nat m i (by omega), if_neg c])
      (by
        intro s _
        refine Ev.step (f := fun _ => some true) (fun k => ?_) (ev_const (by rw [List.drop_length, hn, List.drop_length]; rfl))
        simp only [laws_equalInts.l0]
        rw [if_neg (by omega)])
      l.length 0 () (by omega) trivial
    exact ev_pos (by omega) (by simpa using key)
  · refine ev_neg (by omega) ?_
    rw [decide_eq_false (fun h => hn (by rw [h]))]
    exact Ev.now _
end Go.Proofs.Ytgfjccegehnjcaa.Pure

/- impl.cancelling: how many steps at the beginning cancel each other. -/
namespace Go.Proofs.Ytgfjccegehnjcaa.Q
open Go.RowKit Go.Proofs.YtgfjccegehnjcaaW.PrintWords Go.Proofs.YtgfjccegehnjcaaW.PrintLast Go.Proofs.YtgfjccegehnjcaaW.PrintMore
attribute [local go_sem] max2_int min2_int max_two min_two max_three min_three max_four min_four
set_option linter.unusedVariables false
set_option linter.unusedSimpArgs false
open Go.Proofs.Ytgfjccegehnjcaa.Pure

def manyOf (k : Int) : Nat := if k = 0 then 2 else if k = 2 then 2 else if k = 1 then 4 else 0
def cancelN (l : List S59) : Nat := if manyOf (rd_T59 l 0).f0 = 0 then 0 else if l.length < manyOf (rd_T59 l 0).f0 then 0 else if (l.take (manyOf (rd_T59 l 0).f0)).any (otherKind l) = true then 0 else manyOf (rd_T59 l 0).f0
def impl_cancelling.f (l0 : List S59) : Option Int := if 0 < l0.length then some (cancelN l0) else none
set_option maxHeartbeats 2000000 in
set_option maxRecDepth 100000 in
theorem canc_other (l : List S59) (A : Option Addr) (c : Nat) (hl : 0 < l.length) (hk : manyOf (rd_T59 l 0).f0 = 0) (w : World) (hr : Kd.C k59 w A l.length l) :
    Calls Try.prog 71 #[.slice A l.length c] w fun e w' => e = .returned (.int .i64 0) ∧ Below w.heap.size w w' := by
  have HB0 := Aside0.mk (Below.refl w.heap.size w)
  have hu := Try.underlying53
  have hus := Try.underlying59
  obtain ⟨ad, A6, c6, e, hx0, _, _, _, _, _, _, _⟩ := at_T59 hr 0 (by omega) (by omega)
  subst e
  rw [add_zero6] at hx0
  generalize (rd_T59 l 0).f0 = k0 at *
  have c0 : ¬ k0 = 0 := fun h => by unfold manyOf at hk; rw [if_pos h] at hk; omega
  have c2 : ¬ k0 = 2 := fun h => by unfold manyOf at hk; rw [if_neg c0, if_pos h] at hk; omega
  have c1 : ¬ k0 = 1 := fun h => by unfold manyOf at hk; rw [if_neg c0, if_neg c2, if_pos h] at hk; omega
  have d0 : decide (k0 = 0) = false := decide_eq_false c0
  have d2 : decide (k0 = 2) = false := decide_eq_false c2
  have d1 : decide (k0 = 1) = false := decide_eq_false c1
  have b0 : (k0 == 0) = false := by simpa using c0
  have b2 : (k0 == 2) = false := by simpa using c2
  have b1 : (k0 == 1) = false := by simpa using c1
  have HX := Aside0.mk hx0
  clear hr hk hx0
  go_enter Try.func71, Try.ntmps71
  go_wp2_with (first
    | ((with_reducible refine gate_dst (N := 1) rfl ?_); refine box_event ?hg (N := 1) ?hd (cs := #[.slice (some ad) l.length c]) (t := 53) ?hr ?_; (case hd => rfl); (case hg => rfl); (case hr => first | (go_simp; done) | (go_simp; rfl)); intro g1 hg_ w1 hbox hb; have HB1 := Aside0.mk (below_then HB0.out HB0.out.size hb); have K1 := Aside0.mk hbox; have Gg1 := Aside0.mk (show w.heap.size ≤ g1 from by rw [hg_]; exact HB0.out.size); have kc0 : w1.cell? ⟨g1, 0, none⟩ = some (.slice (some ad) l.length c) := (blk_cell K1.out 0).trans rfl; have hz : w1.cell? ad = some (.int .i64 k0) := (hb.cell (World.block_lt_of_cell? _ _ HX.out)).trans HX.out; clear hbox hb hg_))
  go_ret
  exact ⟨rfl, HB1.out⟩
set_option maxHeartbeats 2000000 in
set_option maxRecDepth 100000 in
theorem canc_short (l : List S59) (A : Option Addr) (c : Nat) (hl : 0 < l.length) (hm0 : (l.length < 2 ∧ ((rd_T59 l 0).f0 = 0 ∨ (rd_T59 l 0).f0 = 2)) ∨ (l.length < 4 ∧ (rd_T59 l 0).f0 = 1)) (w : World) (hr : Kd.C k59 w A l.length l) :
    Calls Try.prog 71 #[.slice A l.length c] w fun e w' => e = .returned (.int .i64 0) ∧ Below w.heap.size w w' := by
  have HB0 := Aside0.mk (Below.refl w.heap.size w)
  have hu := Try.underlying53
  have hus := Try.underlying59
  obtain ⟨ad, A6, c6, e, hx0, _, _, _, _, _, _, _⟩ := at_T59 hr 0 (by omega) (by omega)
  subst e
  rw [add_zero6] at hx0
  generalize (rd_T59 l 0).f0 = k0 at *
  have HX := Aside0.mk hx0
  clear hr hx0
  have hq3 : (l.length < 2 ∧ k0 = 0) ∨ (l.length < 2 ∧ k0 = 2) ∨ (l.length < 4 ∧ k0 = 1) := by omega
  clear hm0
  rcases hq3 with ⟨hlt, rfl⟩ | ⟨hlt, rfl⟩ | ⟨hlt, rfl⟩
  · have hgt : decide ((2 : Int) > (l.length : Int)) = true := decide_eq_true (by omega)
    have hgt2 : decide ((l.length : Int) < (2 : Int)) = true := decide_eq_true (by omega)
    go_enter Try.func71, Try.ntmps71
    go_wp2_with (first
      | ((with_reducible refine gate_dst (N := 1) rfl ?_); refine box_event ?hg (N := 1) ?hd (cs := #[.slice (some ad) l.length c]) (t := 53) ?hr ?_; (case hd => rfl); (case hg => rfl); (case hr => first | (go_simp; done) | (go_simp; rfl)); intro g1 hg_ w1 hbox hb; have HB1 := Aside0.mk (below_then HB0.out HB0.out.size hb); have K1 := Aside0.mk hbox; have Gg1 := Aside0.mk (show w.heap.size ≤ g1 from by rw [hg_]; exact HB0.out.size); have kc0 : w1.cell? ⟨g1, 0, none⟩ = some (.slice (some ad) l.length c) := (blk_cell K1.out 0).trans rfl; have hz : w1.cell? ad = some (.int .i64 0) := (hb.cell (World.block_lt_of_cell? _ _ HX.out)).trans HX.out; clear hbox hb hg_))
    go_ret
    exact ⟨rfl, HB1.out⟩
  · have hgt : decide ((2 : Int) > (l.length : Int)) = true := decide_eq_true (by omega)
    have hgt2 : decide ((l.length : Int) < (2 : Int)) = true := decide_eq_true (by omega)
    go_enter Try.func71, Try.ntmps71
    go_wp2_with (first
      | ((with_reducible refine gate_dst (N := 1) rfl ?_); refine box_event ?hg (N := 1) ?hd (cs := #[.slice (some ad) l.length c]) (t := 53) ?hr ?_; (case hd => rfl); (case hg => rfl); (case hr => first | (go_simp; done) | (go_simp; rfl)); intro g1 hg_ w1 hbox hb; have HB1 := Aside0.mk (below_then HB0.out HB0.out.size hb); have K1 := Aside0.mk hbox; have Gg1 := Aside0.mk (show w.heap.size ≤ g1 from by rw [hg_]; exact HB0.out.size); have kc0 : w1.cell? ⟨g1, 0, none⟩ = some (.slice (some ad) l.length c) := (blk_cell K1.out 0).trans rfl; have hz : w1.cell? ad = some (.int .i64 2) := (hb.cell (World.block_lt_of_cell? _ _ HX.out)).trans HX.out; clear hbox hb hg_))
    go_ret
    exact ⟨rfl, HB1.out⟩
  · have hgt : decide ((4 : Int) > (l.length : Int)) = true := decide_eq_true (by omega)
    have hgt2 : decide ((l.length : Int) < (4 : Int)) = true := decide_eq_true (by omega)
    go_enter Try.func71, Try.ntmps71
    go_wp2_with (first
      | ((with_reducible refine gate_dst (N := 1) rfl ?_); refine box_event ?hg (N := 1) ?hd (cs := #[.slice (some ad) l.length c]) (t := 53) ?hr ?_; (case hd => rfl); (case hg => rfl); (case hr => first | (go_simp; done) | (go_simp; rfl)); intro g1 hg_ w1 hbox hb; have HB1 := Aside0.mk (below_then HB0.out HB0.out.size hb); have K1 := Aside0.mk hbox; have Gg1 := Aside0.mk (show w.heap.size ≤ g1 from by rw [hg_]; exact HB0.out.size); have kc0 : w1.cell? ⟨g1, 0, none⟩ = some (.slice (some ad) l.length c) := (blk_cell K1.out 0).trans rfl; have hz : w1.cell? ad = some (.int .i64 1) := (hb.cell (World.block_lt_of_cell? _ _ HX.out)).trans HX.out; clear hbox hb hg_))
    go_ret
    exact ⟨rfl, HB1.out⟩
set_option maxHeartbeats 2000000 in
set_option maxRecDepth 100000 in
theorem canc_some (l : List S59) (A : Option Addr) (c : Nat) (hl : 0 < l.length) (many : Nat) (hm0 : many = 2 ∨ many = 4) (hml : many ≤ l.length) (hk : manyOf (rd_T59 l 0).f0 = many) (w : World) (hr : Kd.C k59 w A l.length l) (hc : l.length ≤ c) :
    Calls Try.prog 71 #[.slice A l.length c] w fun e w' => e = .returned (.int .i64 (cancelN l : Int)) ∧ Below w.heap.size w w' := by
  have HCN := Aside0.mk (show cancelN l = if (l.take many).any (otherKind l) = true then 0 else many from by unfold cancelN; rw [hk, if_neg (by omega), if_neg (by omega)])
  have hm : l.length ≤ 9223372036854775807 := hr.2.1
  have HR := Aside0.mk hr
  have HB0 := Aside0.mk (Below.refl w.heap.size w)
  have hu := Try.underlying53
  have hus := Try.underlying59
  have EG := Aside0.mk (show ∀ args W, (callFunc 92 args).run Try.prog W = .ok (.enter 92 args) W from enters_of Try.func92 (by kernel_rfl) rfl)
  obtain ⟨ad, A6, c6, e, hx0, _, _, _, _, _, _, _⟩ := at_T59 hr 0 (by omega) (by omega)
  subst e
  rw [add_zero6] at hx0
  generalize hkk : (rd_T59 l 0).f0 = k0 at *
  have hq : (many = 2 ∧ (k0 = 0 ∨ k0 = 2)) ∨ (many = 4 ∧ k0 = 1) := by
    unfold manyOf at hk
    by_cases c0 : k0 = 0
    · rw [if_pos c0] at hk; exact .inl ⟨hk.symm, .inl c0⟩
    · rw [if_neg c0] at hk
      by_cases c2 : k0 = 2
      · rw [if_pos c2] at hk; exact .inl ⟨hk.symm, .inr c2⟩
      · rw [if_neg c2] at hk
        by_cases c1 : k0 = 1
        · rw [if_pos c1] at hk; exact .inr ⟨hk.symm, c1⟩
        · rw [if_neg c1] at hk; omega
  have hlb : ((List.take many l)).length = many := by rw [List.length_take]; omega
  have hx := World.block_lt_of_cell? w _ hx0
  have HX := Aside0.mk hx0
  have HC := Aside0.mk hc
  clear hr hkk hk hm0 hx0
  have hq3 : (many = 2 ∧ k0 = 0) ∨ (many = 2 ∧ k0 = 2) ∨ (many = 4 ∧ k0 = 1) := by omega
  clear hq
  rcases hq3 with ⟨rfl, rfl⟩ | ⟨rfl, rfl⟩ | ⟨rfl, rfl⟩
  · have HLB := Aside0.mk hlb
    have hgt : decide ((2 : Int) > (l.length : Int)) = false := decide_eq_false (by omega)
    have hgt2 : decide ((l.length : Int) < (2 : Int)) = false := decide_eq_false (by omega)
    have hgt3 : ¬ (l.length < 2) := by omega
    have hgc : (2 : Int) ≤ (c : Int) := by omega
    clear hlb
    by_cases hv : (l.take 2).any (otherKind l) = true
    · have HV := Aside0.mk hv
      rw [hv, if_pos rfl] at HCN
      clear hv
      go_enter Try.func71, Try.ntmps71
      go_wp2_with (first
        | ((with_reducible refine gate_dst (N := 1) rfl ?_); refine box_event ?hg (N := 1) ?hd (cs := #[.slice (some ad) l.length c]) (t := 53) ?hr ?_; (case hd => rfl); (case hg => rfl); (case hr => first | (go_simp; done) | (go_simp; rfl)); intro g1 hg_ w1 hbox hb; have HB1 := Aside0.mk (below_then HB0.out HB0.out.size hb); have K1 := Aside0.mk hbox; have Gg1 := Aside0.mk (show w.heap.size ≤ g1 from by rw [hg_]; exact HB0.out.size); have kc0 : w1.cell? ⟨g1, 0, none⟩ = some (.slice (some ad) l.length c) := (blk_cell K1.out 0).trans rfl; have hz : w1.cell? ad = some (.int .i64 0) := (hb.cell (World.block_lt_of_cell? _ _ HX.out)).trans HX.out; have HP := Aside0.mk (show ∀ (W : World) (x : S59) (A5 : Option Addr) (c5 : Nat), Below w1.heap.size w1 W → Calls Try.prog 92 (#[.agg #[.int .i64 x.f0, .int .i64 x.f1.f0, .int .i64 x.f1.f1, .int .i64 x.f1.f2, .int .i64 x.f1.f3, .slice A5 x.f2.length c5]] ++ #[.pointer (some ⟨g1, 0, none⟩)]) W fun e W' => e = .returned (.bool (otherKind l x)) ∧ Below W.heap.size W W' from fun W x A5 c5 hW => cancelCmp l (some ad) c x A5 c5 g1 W hl ((blk_cell (blk_below K1.out hW) 0).trans rfl) (Kd.C_below (Kd.C_below HR.out HB1.out) hW)); have HT := Aside0.mk (Kd.C_take (m := 2) (Kd.C_below HR.out HB1.out) (by omega)); clear hbox hb hg_)
        | (go_at_call 91; have hcf := containsFunc_Step 92 #[.pointer (some ⟨g1, 0, none⟩)] (otherKind l) (some ad) c (l.take 2) w1 EG.out HP.out HT.out; rw [HLB.out] at hcf; (with_reducible refine hcf.mono ?_); clear hcf; rintro e w2 ⟨rfl, hb⟩; rw [HV.out]; have HB2 := Aside0.mk (below_then HB1.out HB1.out.size hb); clear hb))
      go_ret
      exact ⟨by rw [HCN.out]; rfl, HB2.out⟩
    · replace hv : (l.take 2).any (otherKind l) = false := by simpa using hv
      have HV := Aside0.mk hv
      rw [hv, if_neg (by simp)] at HCN
      clear hv
      go_enter Try.func71, Try.ntmps71
      go_wp2_with (first
        | ((with_reducible refine gate_dst (N := 1) rfl ?_); refine box_event ?hg (N := 1) ?hd (cs := #[.slice (some ad) l.length c]) (t := 53) ?hr ?_; (case hd => rfl); (case hg => rfl); (case hr => first | (go_simp; done) | (go_simp; rfl)); intro g1 hg_ w1 hbox hb; have HB1 := Aside0.mk (below_then HB0.out HB0.out.size hb); have K1 := Aside0.mk hbox; have Gg1 := Aside0.mk (show w.heap.size ≤ g1 from by rw [hg_]; exact HB0.out.size); have kc0 : w1.cell? ⟨g1, 0, none⟩ = some (.slice (some ad) l.length c) := (blk_cell K1.out 0).trans rfl; have hz : w1.cell? ad = some (.int .i64 0) := (hb.cell (World.block_lt_of_cell? _ _ HX.out)).trans HX.out; have HP := Aside0.mk (show ∀ (W : World) (x : S59) (A5 : Option Addr) (c5 : Nat), Below w1.heap.size w1 W → Calls Try.prog 92 (#[.agg #[.int .i64 x.f0, .int .i64 x.f1.f0, .int .i64 x.f1.f1, .int .i64 x.f1.f2, .int .i64 x.f1.f3, .slice A5 x.f2.length c5]] ++ #[.pointer (some ⟨g1, 0, none⟩)]) W fun e W' => e = .returned (.bool (otherKind l x)) ∧ Below W.heap.size W W' from fun W x A5 c5 hW => cancelCmp l (some ad) c x A5 c5 g1 W hl ((blk_cell (blk_below K1.out hW) 0).trans rfl) (Kd.C_below (Kd.C_below HR.out HB1.out) hW)); have HT := Aside0.mk (Kd.C_take (m := 2) (Kd.C_below HR.out HB1.out) (by omega)); clear hbox hb hg_)
        | (go_at_call 91; have hcf := containsFunc_Step 92 #[.pointer (some ⟨g1, 0, none⟩)] (otherKind l) (some ad) c (l.take 2) w1 EG.out HP.out HT.out; rw [HLB.out] at hcf; (with_reducible refine hcf.mono ?_); clear hcf; rintro e w2 ⟨rfl, hb⟩; rw [HV.out]; have HB2 := Aside0.mk (below_then HB1.out HB1.out.size hb); clear hb))
      go_ret
      exact ⟨by rw [HCN.out]; rfl, HB2.out⟩
  · have HLB := Aside0.mk hlb
    have hgt : decide ((2 : Int) > (l.length : Int)) = false := decide_eq_false (by omega)
    have hgt2 : decide ((l.length : Int) < (2 : Int)) = false := decide_eq_false (by omega)
    have hgt3 : ¬ (l.length < 2) := by omega
    have hgc : (2 : Int) ≤ (c : Int) := by omega
    clear hlb
    by_cases hv : (l.take 2).any (otherKind l) = true
    · have HV := Aside0.mk hv
      rw [hv, if_pos rfl] at HCN
      clear hv
      go_enter Try.func71, Try.ntmps71
      go_wp2_with (first
        | ((with_reducible refine gate_dst (N := 1) rfl ?_); refine box_event ?hg (N := 1) ?hd (cs := #[.slice (some ad) l.length c]) (t := 53) ?hr ?_; (case hd => rfl); (case hg => rfl); (case hr => first | (go_simp; done) | (go_simp; rfl)); intro g1 hg_ w1 hbox hb; have HB1 := Aside0.mk (below_then HB0.out HB0.out.size hb); have K1 := Aside0.mk hbox; have Gg1 := Aside0.mk (show w.heap.size ≤ g1 from by rw [hg_]; exact HB0.out.size); have kc0 : w1.cell? ⟨g1, 0, none⟩ = some (.slice (some ad) l.length c) := (blk_cell K1.out 0).trans rfl; have hz : w1.cell? ad = some (.int .i64 2) := (hb.cell (World.block_lt_of_cell? _ _ HX.out)).trans HX.out; have HP := Aside0.mk (show ∀ (W : World) (x : S59) (A5 : Option Addr) (c5 : Nat), Below w1.heap.size w1 W → Calls Try.prog 92 (#[.agg #[.int .i64 x.f0, .int .i64 x.f1.f0, .int .i64 x.f1.f1, .int .i64 x.f1.f2, .int .i64 x.f1.f3, .slice A5 x.f2.length c5]] ++ #[.pointer (some ⟨g1, 0, none⟩)]) W fun e W' => e = .returned (.bool (otherKind l x)) ∧ Below W.heap.size W W' from fun W x A5 c5 hW => cancelCmp l (some ad) c x A5 c5 g1 W hl ((blk_cell (blk_below K1.out hW) 0).trans rfl) (Kd.C_below (Kd.C_below HR.out HB1.out) hW)); have HT := Aside0.mk (Kd.C_take (m := 2) (Kd.C_below HR.out HB1.out) (by omega)); clear hbox hb hg_)
        | (go_at_call 91; have hcf := containsFunc_Step 92 #[.pointer (some ⟨g1, 0, none⟩)] (otherKind l) (some ad) c (l.take 2) w1 EG.out HP.out HT.out; rw [HLB.out] at hcf; (with_reducible refine hcf.mono ?_); clear hcf; rintro e w2 ⟨rfl, hb⟩; rw [HV.out]; have HB2 := Aside0.mk (below_then HB1.out HB1.out.size hb); clear hb))
      go_ret
      exact ⟨by rw [HCN.out]; rfl, HB2.out⟩
    · replace hv : (l.take 2).any (otherKind l) = false := by simpa using hv
      have HV := Aside0.mk hv
      rw [hv, if_neg (by simp)] at HCN
      clear hv
      go_enter Try.func71, Try.ntmps71
      go_wp2_with (first
        | ((with_reducible refine gate_dst (N := 1) rfl ?_); refine box_event ?hg (N := 1) ?hd (cs := #[.slice (some ad) l.length c]) (t := 53) ?hr ?_; (case hd => rfl); (case hg => rfl); (case hr => first | (go_simp; done) | (go_simp; rfl)); intro g1 hg_ w1 hbox hb; have HB1 := Aside0.mk (below_then HB0.out HB0.out.size hb); have K1 := Aside0.mk hbox; have Gg1 := Aside0.mk (show w.heap.size ≤ g1 from by rw [hg_]; exact HB0.out.size); have kc0 : w1.cell? ⟨g1, 0, none⟩ = some (.slice (some ad) l.length c) := (blk_cell K1.out 0).trans rfl; have hz : w1.cell? ad = some (.int .i64 2) := (hb.cell (World.block_lt_of_cell? _ _ HX.out)).trans HX.out; have HP := Aside0.mk (show ∀ (W : World) (x : S59) (A5 : Option Addr) (c5 : Nat), Below w1.heap.size w1 W → Calls Try.prog 92 (#[.agg #[.int .i64 x.f0, .int .i64 x.f1.f0, .int .i64 x.f1.f1, .int .i64 x.f1.f2, .int .i64 x.f1.f3, .slice A5 x.f2.length c5]] ++ #[.pointer (some ⟨g1, 0, none⟩)]) W fun e W' => e = .returned (.bool (otherKind l x)) ∧ Below W.heap.size W W' from fun W x A5 c5 hW => cancelCmp l (some ad) c x A5 c5 g1 W hl ((blk_cell (blk_below K1.out hW) 0).trans rfl) (Kd.C_below (Kd.C_below HR.out HB1.out) hW)); have HT := Aside0.mk (Kd.C_take (m := 2) (Kd.C_below HR.out HB1.out) (by omega)); clear hbox hb hg_)
        | (go_at_call 91; have hcf := containsFunc_Step 92 #[.pointer (some ⟨g1, 0, none⟩)] (otherKind l) (some ad) c (l.take 2) w1 EG.out HP.out HT.out; rw [HLB.out] at hcf; (with_reducible refine hcf.mono ?_); clear hcf; rintro e w2 ⟨rfl, hb⟩; rw [HV.out]; have HB2 := Aside0.mk (below_then HB1.out HB1.out.size hb); clear hb))
      go_ret
      exact ⟨by rw [HCN.out]; rfl, HB2.out⟩
  · have HLB := Aside0.mk hlb
    have hgt : decide ((4 : Int) > (l.length : Int)) = false := decide_eq_false (by omega)
    have hgt2 : decide ((l.length : Int) < (4 : Int)) = false := decide_eq_false (by omega)
    have hgt3 : ¬ (l.length < 4) := by omega
    have hgc : (4 : Int) ≤ (c : Int) := by omega
    clear hlb
    by_cases hv : (l.take 4).any (otherKind l) = true
    · have HV := Aside0.mk hv
      rw [hv, if_pos rfl] at HCN
      clear hv
      go_enter Try.func71, Try.ntmps71
      go_wp2_with (first
        | ((with_reducible refine gate_dst (N := 1) rfl ?_); refine box_event ?hg (N := 1) ?hd (cs := #[.slice (some ad) l.length c]) (t := 53) ?hr ?_; (case hd => rfl); (case hg => rfl); (case hr => first | (go_simp; done) | (go_simp; rfl)); intro g1 hg_ w1 hbox hb; have HB1 := Aside0.mk (below_then HB0.out HB0.out.size hb); have K1 := Aside0.mk hbox; have Gg1 := Aside0.mk (show w.heap.size ≤ g1 from by rw [hg_]; exact HB0.out.size); have kc0 : w1.cell? ⟨g1, 0, none⟩ = some (.slice (some ad) l.length c) := (blk_cell K1.out 0).trans rfl; have hz : w1.cell? ad = some (.int .i64 1) := (hb.cell (World.block_lt_of_cell? _ _ HX.out)).trans HX.out; have HP := Aside0.mk (show ∀ (W : World) (x : S59) (A5 : Option Addr) (c5 : Nat), Below w1.heap.size w1 W → Calls Try.prog 92 (#[.agg #[.int .i64 x.f0, .int .i64 x.f1.f0, .int .i64 x.f1.f1, .int .i64 x.f1.f2, .int .i64 x.f1.f3, .slice A5 x.f2.length c5]] ++ #[.pointer (some ⟨g1, 0, none⟩)]) W fun e W' => e = .returned (.bool (otherKind l x)) ∧ Below W.heap.size W W' from fun W x A5 c5 hW => cancelCmp l (some ad) c x A5 c5 g1 W hl ((blk_cell (blk_below K1.out hW) 0).trans rfl) (Kd.C_below (Kd.C_below HR.out HB1.out) hW)); have HT := Aside0.mk (Kd.C_take (m := 4) (Kd.C_below HR.out HB1.out) (by omega)); clear hbox hb hg_)
        | (go_at_call 91; have hcf := containsFunc_Step 92 #[.pointer (some ⟨g1, 0, none⟩)] (otherKind l) (some ad) c (l.take 4) w1 EG.out HP.out HT.out; rw [HLB.out] at hcf; (with_reducible refine hcf.mono ?_); clear hcf; rintro e w2 ⟨rfl, hb⟩; rw [HV.out]; have HB2 := Aside0.mk (below_then HB1.out HB1.out.size hb); clear hb))
      go_ret
      exact ⟨by rw [HCN.out]; rfl, HB2.out⟩
    · replace hv : (l.take 4).any (otherKind l) = false := by simpa using hv
      have HV := Aside0.mk hv
      rw [hv, if_neg (by simp)] at HCN
      clear hv
      go_enter Try.func71, Try.ntmps71
      go_wp2_with (first
        | ((with_reducible refine gate_dst (N := 1) rfl ?_); refine box_event ?hg (N := 1) ?hd (cs := #[.slice (some ad) l.length c]) (t := 53) ?hr ?_; (case hd => rfl); (case hg => rfl); (case hr => first | (go_simp; done) | (go_simp; rfl)); intro g1 hg_ w1 hbox hb; have HB1 := Aside0.mk (below_then HB0.out HB0.out.size hb); have K1 := Aside0.mk hbox; have Gg1 := Aside0.mk (show w.heap.size ≤ g1 from by rw [hg_]; exact HB0.out.size); have kc0 : w1.cell? ⟨g1, 0, none⟩ = some (.slice (some ad) l.length c) := (blk_cell K1.out 0).trans rfl; have hz : w1.cell? ad = some (.int .i64 1) := (hb.cell (World.block_lt_of_cell? _ _ HX.out)).trans HX.out; have HP := Aside0.mk (show ∀ (W : World) (x : S59) (A5 : Option Addr) (c5 : Nat), Below w1.heap.size w1 W → Calls Try.prog 92 (#[.agg #[.int .i64 x.f0, .int .i64 x.f1.f0, .int .i64 x.f1.f1, .int .i64 x.f1.f2, .int .i64 x.f1.f3, .slice A5 x.f2.length c5]] ++ #[.pointer (some ⟨g1, 0, none⟩)]) W fun e W' => e = .returned (.bool (otherKind l x)) ∧ Below W.heap.size W W' from fun W x A5 c5 hW => cancelCmp l (some ad) c x A5 c5 g1 W hl ((blk_cell (blk_below K1.out hW) 0).trans rfl) (Kd.C_below (Kd.C_below HR.out HB1.out) hW)); have HT := Aside0.mk (Kd.C_take (m := 4) (Kd.C_below HR.out HB1.out) (by omega)); clear hbox hb hg_)
        | (go_at_call 91; have hcf := containsFunc_Step 92 #[.pointer (some ⟨g1, 0, none⟩)] (otherKind l) (some ad) c (l.take 4) w1 EG.out HP.out HT.out; rw [HLB.out] at hcf; (with_reducible refine hcf.mono ?_); clear hcf; rintro e w2 ⟨rfl, hb⟩; rw [HV.out]; have HB2 := Aside0.mk (below_then HB1.out HB1.out.size hb); clear hb))
      go_ret
      exact ⟨by rw [HCN.out]; rfl, HB2.out⟩
theorem impl_cancelling.calls (A0 : Option Addr) (c0 : Nat) (l0 : List S59) (r : Int) (w : World) (hr0 : Kd.C k59 w A0 l0.length l0) (hc0 : l0.length ≤ c0) (h : impl_cancelling.f l0 = some r) :
    Calls Try.prog 71 #[.slice A0 l0.length c0] w fun e w' => e = .returned (.int .i64 r) ∧ Below w.heap.size w w' := by
  unfold impl_cancelling.f at h
  by_cases hl : 0 < l0.length
  · rw [if_pos hl] at h
    obtain rfl := Option.some.inj h
    have h5 : manyOf (rd_T59 l0 0).f0 = 0 ∨ (manyOf (rd_T59 l0 0).f0 = 2 ∧ ((rd_T59 l0 0).f0 = 0 ∨ (rd_T59 l0 0).f0 = 2)) ∨ (manyOf (rd_T59 l0 0).f0 = 4 ∧ (rd_T59 l0 0).f0 = 1) := by
      unfold manyOf
      by_cases c0 : (rd_T59 l0 0).f0 = 0
      · rw [if_pos c0]; exact .inr (.inl ⟨rfl, .inl c0⟩)
      · rw [if_neg c0]
        by_cases c2 : (rd_T59 l0 0).f0 = 2
        · rw [if_pos c2]; exact .inr (.inl ⟨rfl, .inr c2⟩)
        · rw [if_neg c2]
          by_cases c1 : (rd_T59 l0 0).f0 = 1
          · rw [if_pos c1]; exact .inr (.inr ⟨rfl, c1⟩)
          · rw [if_neg c1]; exact .inl rfl
    by_cases hz : manyOf (rd_T59 l0 0).f0 = 0
    · rw [show cancelN l0 = 0 from by unfold cancelN; rw [if_pos hz]]
      exact canc_other l0 A0 c0 hl hz w hr0
    · by_cases hs : l0.length < manyOf (rd_T59 l0 0).f0
      · rw [show cancelN l0 = 0 from by unfold cancelN; rw [if_neg hz, if_pos hs]]
        exact canc_short l0 A0 c0 hl (by omega) w hr0
      · exact canc_some l0 A0 c0 hl _ (by omega) (by omega) rfl w hr0 hc0
  · rw [if_neg hl] at h; cases h

/- impl.SimplifySteps: steps that cancel each other are taken out. -/

def simpF : Nat → List S59 → Nat → List S59
  | 0, l, _ => l
  | k + 1, l, i => if i < l.length then (if cancelN (l.drop i) = 0 then simpF k l (i + 1) else simpF k (l.take i ++ l.drop (i + cancelN (l.drop i))) 0) else l
def impl_SimplifySteps.f (l0 : List S59) : Option (List S59) := if l0.all (fun s => decide (s.f2.length ≤ 1000000)) = true then some (if 12 < l0.length then [] else simpF 200 l0 0) else none
theorem simpF_succ (k : Nat) (l : List S59) (i : Nat) : simpF (k + 1) l i = if i < l.length then (if cancelN (l.drop i) = 0 then simpF k l (i + 1) else simpF k (l.take i ++ l.drop (i + cancelN (l.drop i))) 0) else l := rfl
theorem cancelN_le (l : List S59) : cancelN l ≤ l.length := by
  unfold cancelN
  split
  · omega
  · split
    · omega
    · split <;> omega
set_option maxHeartbeats 4000000 in
set_option maxRecDepth 100000 in
theorem simp_some (A0 : Option Addr) (c0 : Nat) (l : List S59) (w : World) (hr0 : Kd.C k59 w A0 l.length l) (h12 : l.length ≤ 12) (hpx : ∀ s ∈ l, s.f2.length ≤ 1000000) :
    Calls Try.prog 38 #[.slice A0 l.length c0] w fun e w' => ∃ v0_ : Value, e = .returned v0_ ∧ Kd.R k59 59 w' w.heap.size (fun _ => True) v0_ (simpF 200 l 0) ∧ Below w.heap.size w w' := by
  have HR := Aside0.mk hr0
  have hu := Try.underlying53
  have hus := Try.underlying59
  have hui := Try.underlying57
  have q12 : decide ((l.length : Int) > 12) = false := decide_eq_false (by omega)
  have q12b : decide (12 < l.length) = false := decide_eq_false (by omega)
  clear hr0
  go_enter Try.func38, Try.ntmps38
  go_wp2_with (first
    | ((with_reducible refine gate_dst (N := 11) rfl ?_); refine Kd.R_lit k59 (w0 := w) w.heap.size 59 ?hg (N := 11) ?hd (xs := ([] : List S59)) (inner := []) (ok := fun _ => True) (okp := fun _ => True) ?hr ?hp (fun _ hk => hk) trivial (Below.refl _ _) (Nat.le_refl _) (by simp) ?_; (case hd => rfl); (case hg => rfl); (case hr => first | (go_simp; done) | (go_simp; rfl)); (case hp => exact (Reps.none _ _)); intro v11 w1 ho hb hg_ hnew_; have O1 := Aside0.mk (And.intro ho (And.intro (hnew_.imp fun _ h => h.1) hb)); clear ho hb hg_ hnew_))
  go_loopw [3, 14] (fun v3 v14 W => ∃ i : Nat, v14 = .int .i64 i ∧ i ≤ l.length ∧ Aside0 (Kd.R k59 59 W w.heap.size (fun _ => True) v3 (l.take i) ∧ (∃ g, v3.ownBlock = some g) ∧ Below w.heap.size w W)) (fun _ v14 _ => l.length - (intOf v14).toNat)
  case atStart => exact ⟨0, rfl, by omega, ⟨O1.out.1, O1.out.2.1, O1.out.2.2⟩⟩
  case round =>
    clear O1
    obtain ⟨i, rfl, hi, HV⟩ := hrel
    by_cases hlt : i < l.length
    · have q1 : decide ((i : Int) < (l.length : Int)) = true := decide_eq_true (by omega)
      obtain ⟨ad, A5, c5, e, hx0, hx1, hx2, hx3, hx4, hx5, l5, g5⟩ := at_T59 (Kd.C_below HR.out HV.out.2.2) (i : Int) (by omega) (by omega)
      subst e
      rw [Int.toNat_natCast] at hx0 hx1 hx2 hx3 hx4 hx5
      have er : rd_T59 l (i : Int) = l[i] := by simp [rd_T59, hlt]
      have HTK := Aside0.mk (show l.take (i + 1) = l.take i ++ [rd_T59 l (i : Int)] from by rw [List.take_succ_eq_append_getElem hlt, er])
      have HPX := Aside0.mk (show (rd_T59 l (i : Int)).f2.length ≤ 1000000 from by rw [er]; exact hpx _ (List.getElem_mem _))
      clear er
      generalize rd_T59 l (i : Int) = x at *
      have HOW := Aside0.mk HV.out.2.1
      have KS := Aside0.mk (blk_new wr (.cells #[.int .i64 x.f0, .int .i64 x.f1.f0, .int .i64 x.f1.f1, .int .i64 x.f1.f2, .int .i64 x.f1.f3, .slice A5 x.f2.length c5] 59 (0, 0)))
      have hgs1 : wr.heap.size < (wr.alloc (.cells #[.int .i64 x.f0, .int .i64 x.f1.f0, .int .i64 x.f1.f1, .int .i64 x.f1.f2, .int .i64 x.f1.f3, .slice A5 x.f2.length c5] 59 (0, 0))).heap.size := blk_lt KS.out
      have hws : w.heap.size ≤ wr.heap.size := HV.out.2.2.size
      have ROA := Aside0.mk (Kd.R_old HV.out.1 (below_alloc (Below.refl _ _) (.cells #[.int .i64 x.f0, .int .i64 x.f1.f0, .int .i64 x.f1.f1, .int .i64 x.f1.f2, .int .i64 x.f1.f3, .slice A5 x.f2.length c5] 59 (0, 0))))
      have HBA := Aside0.mk (below_alloc HV.out.2.2 (.cells #[.int .i64 x.f0, .int .i64 x.f1.f0, .int .i64 x.f1.f1, .int .i64 x.f1.f2, .int .i64 x.f1.f3, .slice A5 x.f2.length c5] 59 (0, 0)))
      have HCA := Aside0.mk (Kd.C_below g5 (below_alloc (Below.refl _ _) (.cells #[.int .i64 x.f0, .int .i64 x.f1.f0, .int .i64 x.f1.f1, .int .i64 x.f1.f2, .int .i64 x.f1.f3, .slice A5 x.f2.length c5] 59 (0, 0))))
      clear HV g5
      go_wp2_with (first
        | ((with_reducible refine gate_dst (N := 18) rfl ?_); refine Kd.R_lit (Kd.int .i64) (w0 := (wr.alloc (.cells #[.int .i64 x.f0, .int .i64 x.f1.f0, .int .i64 x.f1.f1, .int .i64 x.f1.f2, .int .i64 x.f1.f3, .slice A5 x.f2.length c5] 59 (0, 0)))) (wr.alloc (.cells #[.int .i64 x.f0, .int .i64 x.f1.f0, .int .i64 x.f1.f1, .int .i64 x.f1.f2, .int .i64 x.f1.f3, .slice A5 x.f2.length c5] 59 (0, 0))).heap.size 3 ?hg (N := 18) ?hd (xs := ([] : List Int)) (inner := []) (ok := fun _ => True) (okp := fun _ => True) ?hr ?hp (fun _ hk => hk) trivial (Below.refl _ _) (Nat.le_refl _) (by simp) ?_; (case hd => rfl); (case hg => rfl); (case hr => first | (go_simp; done) | (go_simp; rfl)); (case hp => exact (Reps.none _ _)); intro v18 w2 ho hb hg_ hnew_; have RP2 := Aside0.mk ho; have RO2 := Aside0.mk (Kd.R_below ROA.out hb); have KS2 := Aside0.mk (blk_below KS.out hb); have HB2 := Aside0.mk (below_then HBA.out HBA.out.size hb); have HC2 := Aside0.mk (Kd.C_below HCA.out hb); have SZ2 := Aside0.mk hb.size; clear ho hb hg_ hnew_ KS ROA HBA HCA; generalize (wr.alloc (.cells #[.int .i64 x.f0, .int .i64 x.f1.f0, .int .i64 x.f1.f1, .int .i64 x.f1.f2, .int .i64 x.f1.f3, .slice A5 x.f2.length c5] 59 (0, 0))).heap.size = s1 at *; generalize wr.heap.size = gs at *; have y0 : w2.cell? ⟨gs, 0, none⟩ = some (.int .i64 x.f0) := (blk_cell KS2.out 0).trans rfl; have y1 : w2.cell? ⟨gs, 1, none⟩ = some (.int .i64 x.f1.f0) := (blk_cell KS2.out 1).trans rfl; have y2 : w2.cell? ⟨gs, 2, none⟩ = some (.int .i64 x.f1.f1) := (blk_cell KS2.out 2).trans rfl; have y3 : w2.cell? ⟨gs, 3, none⟩ = some (.int .i64 x.f1.f2) := (blk_cell KS2.out 3).trans rfl; have y4 : w2.cell? ⟨gs, 4, none⟩ = some (.int .i64 x.f1.f3) := (blk_cell KS2.out 4).trans rfl; have y5 : w2.cell? ⟨gs, 5, none⟩ = some (.slice A5 x.f2.length c5) := (blk_cell KS2.out 5).trans rfl)
        | ((with_reducible refine gate_builtin (b := .append) (xs := #[.tmp 18, .tmp 20]) rfl ?_); at_builtin; refine Kd.R_append_rows (Kd.int .i64) (w0 := w2) s1 rfl (.tmp 18) (.tmp 20) 57 3 (.int .i64 0) 8 rfl Try.underlying57 info3 rfl (by decide) (by omega) v18 [] x.f2 _ _ _ (fun _ => True) (fun _ => False) rfl rfl RP2.out HC2.out (fun _ _ h => h) (fun _ h => h.elim) (fun _ _ => trivial) (Below.refl _ _) SZ2.out (by have := HPX.out; simp; omega) ?_; intro v21 w3 ho hb hg hat; rw [List.nil_append] at ho; obtain ⟨A7, q7, e7⟩ := Kd.R_slice ho; subst e7; have RP3 := Aside0.mk ho; have RO3 := Aside0.mk (Kd.R_step RO2.out (w1 := w3) (fun k hk _ => hb.block k (by have := hk.2; omega))); have KS3 := Aside0.mk ((hb.block gs hgs1).trans KS2.out); have HB3 := Aside0.mk (below_weaken HB2.out (by omega) hb); clear ho hb hg hat RP2 RO2 KS2 HB2 HC2; have KS4 := Aside0.mk (blk_put (cs' := #[.int .i64 x.f0, .int .i64 x.f1.f0, .int .i64 x.f1.f1, .int .i64 x.f1.f2, .int .i64 x.f1.f3, (.slice A7 x.f2.length q7)]) KS3.out 5 (.slice A7 x.f2.length q7) rfl); have u5 : w3.cell? ⟨gs, 5, none⟩ = some (.slice A5 x.f2.length c5) := (blk_cell KS3.out 5).trans rfl; have uf := blk_frozen KS3.out 5; have z0 : (w3.setCell ⟨gs, 5, none⟩ (.slice A7 x.f2.length q7)).cell? ⟨gs, 0, none⟩ = some (.int .i64 x.f0) := (blk_cell KS4.out 0).trans rfl; have z1 : (w3.setCell ⟨gs, 5, none⟩ (.slice A7 x.f2.length q7)).cell? ⟨gs, 1, none⟩ = some (.int .i64 x.f1.f0) := (blk_cell KS4.out 1).trans rfl; have z2 : (w3.setCell ⟨gs, 5, none⟩ (.slice A7 x.f2.length q7)).cell? ⟨gs, 2, none⟩ = some (.int .i64 x.f1.f1) := (blk_cell KS4.out 2).trans rfl; have z3 : (w3.setCell ⟨gs, 5, none⟩ (.slice A7 x.f2.length q7)).cell? ⟨gs, 3, none⟩ = some (.int .i64 x.f1.f2) := (blk_cell KS4.out 3).trans rfl; have z4 : (w3.setCell ⟨gs, 5, none⟩ (.slice A7 x.f2.length q7)).cell? ⟨gs, 4, none⟩ = some (.int .i64 x.f1.f3) := (blk_cell KS4.out 4).trans rfl; have z5 : (w3.setCell ⟨gs, 5, none⟩ (.slice A7 x.f2.length q7)).cell? ⟨gs, 5, none⟩ = some (.slice A7 x.f2.length q7) := (blk_cell KS4.out 5).trans rfl; have RO4 := Aside0.mk (Kd.R_far (p := ⟨gs, 5, none⟩) RO3.out (fun k hk => by show k ≠ gs; have := hk.2; omega) (.slice A7 x.f2.length q7)); have RP4 := Aside0.mk (Kd.R_far (p := ⟨gs, 5, none⟩) (Kd.R_bound RP3.out) (fun k hk => by show k ≠ gs; have := hk.2.1; omega) (.slice A7 x.f2.length q7)); have HB4 := Aside0.mk (below_set (j := 5) (v := (.slice A7 x.f2.length q7)) HB3.out (by omega)); clear RO3 RP3 HB3 KS3 KS4)
        | ((with_reducible refine gate_builtin (b := .append) (xs := #[.tmp 23, .tmp 25]) rfl ?_); at_builtin; refine Kd.R_append k59 (w0 := w) w.heap.size rfl (.tmp 23) (.tmp 25) 53 59 (.agg #[(.int .i64 0), (.int .i64 0), (.int .i64 0), (.int .i64 0), (.int .i64 0), (.slice none 0 0)]) 64 rfl Try.underlying53 info59 rfl (by decide) (by omega) u3 (l.take i) x [.int .i64 x.f0, .int .i64 x.f1.f0, .int .i64 x.f1.f1, .int .i64 x.f1.f2, .int .i64 x.f1.f3, (.slice A7 x.f2.length q7)] (fun _ => True) (fun k => some k ≠ u3.ownBlock) rfl ?aX (k59_mkM _ _ _ x (Kd.R_lower (Kd.R_mono RP4.out (fun k hk he => by have h1 := hk.2.1; have h2 := (RO4.out.1 k he.symm).2; omega)) (by omega))) (fun k hk => ⟨trivial, hk⟩) (fun _ _ => trivial) (Kd.R_mono RO4.out (fun _ _ => trivial)) HB4.out HB4.out.size (by rw [List.length_take]; omega) ?_; (case aX => first | rfl | (rw [show (w3.setCell ⟨gs, 5, none⟩ (.slice A7 x.f2.length q7)).heap.size = w3.heap.size from by simp [World.setCell]]; rfl) | (simp [World.setCell]; done)); intro v26 w6 ho hb hg hat; have O6 := Aside0.mk (And.intro ho (And.intro (show ∃ g, v26.ownBlock = some g from by rcases hat with e | ⟨b, e, _⟩; exact e ▸ HOW.out; exact ⟨b, e⟩) hb)); clear ho hb hg hat))
      go_roundw
      case rel => exact ⟨i + 1, by go_num, by omega, ⟨by rw [HTK.out]; exact O6.out.1, O6.out.2.1, O6.out.2.2⟩⟩
      case measure => simp [intOf]; omega
    · have q1 : decide ((i : Int) < (l.length : Int)) = false := decide_eq_false (by omega)
      have htl : l.take i = l := List.take_of_length_le (by omega)
      rw [htl] at HV
      go_wp2
      go_loopg [3, 6] 200 (fun kq v3 v6 W => ∃ (cur : List S59) (i : Nat), v6 = .int .i64 i ∧ i ≤ cur.length ∧ cur.length ≤ 12 ∧ cur.length * 13 + (cur.length - i) < kq ∧ Aside0 (Kd.R k59 59 W w.heap.size (fun _ => True) v3 cur ∧ (∃ g, v3.ownBlock = some g) ∧ Below w.heap.size w W ∧ simpF kq cur i = simpF 200 l 0))
      case atStart => exact ⟨l, 0, rfl, by omega, h12, by omega, ⟨HV.out.1, HV.out.2.1, HV.out.2.2, rfl⟩⟩
      case round =>
        clear HV htl
        obtain ⟨cur, i, rfl, hi, h12c, hms, HV⟩ := hrel
        cases gk with
        | zero => omega
        | succ k1 =>
          have hsf := HV.out.2.2.2
          rw [simpF_succ] at hsf
          by_cases hlt : i < cur.length
          · rw [if_pos hlt] at hsf
            have q1 : decide ((i : Int) < (cur.length : Int)) = true := decide_eq_true (by omega)
            obtain ⟨gg, cc, e, _, _, _⟩ := Kd.R_form HV.out.1 (by omega)
            subst e
            obtain ⟨_, hcc, hC⟩ := Kd.R_reads' HV.out.1
            have hne : ¬ cc = i := by omega
            have hcl := cancelN_le (cur.drop i)
            rw [List.length_drop] at hcl
            have hCd := Kd.C_drop (m := i) (c := cc) hC (by omega) hcc
            rw [if_neg hne, Option.map_some, add_plain] at hCd
            have hcn := impl_cancelling.calls (some ⟨gg, i * 6, none⟩) (cc - i) (cur.drop i) (cancelN (cur.drop i) : Int) wr hCd (by rw [List.length_drop]; omega) (by unfold impl_cancelling.f; rw [if_pos (by rw [List.length_drop]; omega)])
            rw [List.length_drop] at hcn
            have HCN := Aside0.mk hcn
            have RO := Aside0.mk HV.out.1
            have HBW := Aside0.mk HV.out.2.2.1
            clear hC hCd hcn HV
            have hil : (i : Int) ≤ (cur.length : Int) := by omega
            by_cases hz : cancelN (cur.drop i) = 0
            · rw [if_pos hz] at hsf
              rw [hz] at HCN
              have HSF := Aside0.mk hsf
              clear hsf hz hcl
              go_wp2_with (first
                | (go_at_call 71; (with_reducible refine (HCN.out).mono ?_); rintro e w2 ⟨rfl, hb⟩; have RO2 := Aside0.mk (Kd.R_below RO.out hb); have HB2 := Aside0.mk (below_then HBW.out HBW.out.size hb); clear hb))
              go_roundg k1
              case measure => omega
              case rel => exact ⟨cur, i + 1, by go_num, by omega, h12c, by omega, ⟨RO2.out, ⟨gg, rfl⟩, HB2.out, HSF.out⟩⟩
            · rw [if_neg hz] at hsf
              generalize cancelN (cur.drop i) = mm at *
              have HSF := Aside0.mk hsf
              have hmz : decide ((mm : Int) = 0) = false := decide_eq_false (by omega)
              have hmz2 : ((mm : Int) == 0) = false := by simpa using hz
              have hwp : IntKind.i64.wrap ((i : Int) + (mm : Int)) = (i : Int) + (mm : Int) := by rw [IntKind.wrap_i64]; omega
              clear hsf
              go_wp2_with (first
                | (go_at_call 71; (with_reducible refine (HCN.out).mono ?_); rintro e w2 ⟨rfl, hb⟩; have RO2 := Aside0.mk (Kd.R_below RO.out hb); have HB2 := Aside0.mk (below_then HBW.out HBW.out.size hb); clear hb)
                | (go_at_call 72; have hdl := delete_calls cur.length cc gg w.heap.size (fun _ => True) cur i (i + mm) (by omega) (by omega) w2 HB2.out.size RO2.out; rw [Int.natCast_add] at hdl; (with_reducible refine hdl.mono ?_); clear hdl; rintro e w3 ⟨rfl, hR, hb⟩; have RO3 := Aside0.mk hR; have HB3 := Aside0.mk (below_weaken HB2.out (Nat.le_refl _) hb); clear hR hb))
              go_roundg k1
              case measure => omega
              case rel =>
                have hln : (cur.take i ++ cur.drop (i + mm)).length = cur.length - mm := by rw [List.length_append, List.length_take, List.length_drop]; omega
                exact ⟨cur.take i ++ cur.drop (i + mm), 0, by go_num, by omega, by omega, by omega, ⟨by have h := RO3.out; rw [Nat.add_sub_cancel_left] at h; exact h, ⟨gg, rfl⟩, HB3.out, HSF.out⟩⟩
          · rw [if_neg hlt] at hsf
            have q1 : decide ((i : Int) < (cur.length : Int)) = false := decide_eq_false (by omega)
            obtain ⟨A3, c3, e3⟩ := Kd.R_slice HV.out.1
            subst e3
            subst hsf
            go_wp2
            go_ret
            exact ⟨_, rfl, HV.out.1, HV.out.2.2.1⟩
theorem impl_SimplifySteps.calls (A0 : Option Addr) (c0 : Nat) (l0 : List S59) (r : List S59) (w : World) (hr0 : Kd.C k59 w A0 l0.length l0) (hc0 : l0.length ≤ c0) (h : impl_SimplifySteps.f l0 = some r) :
    Calls Try.prog 38 #[.slice A0 l0.length c0] w fun e w' => ∃ v0_ : Value, e = .returned (v0_) ∧ Kd.R k59 59 w' w.heap.size (fun _ => True) v0_ r ∧ Below w.heap.size w w' := by
  unfold impl_SimplifySteps.f at h
  by_cases ha : l0.all (fun s => decide (s.f2.length ≤ 1000000)) = true
  · rw [if_pos ha] at h
    by_cases h12 : 12 < l0.length
    · rw [if_pos h12] at h
      obtain rfl := Option.some.inj h
      have q12 : decide ((l0.length : Int) > 12) = true := decide_eq_true (by omega)
      have q12b : decide (12 < l0.length) = true := decide_eq_true (by omega)
      clear hr0
      go_enter Try.func38, Try.ntmps38
      go_wp2
      go_ret
      exact ⟨_, rfl, Kd.R_nil _ _ _ _ _, Below.refl _ _⟩
    · rw [if_neg h12] at h
      obtain rfl := Option.some.inj h
      exact simp_some A0 c0 l0 w hr0 (by omega) (fun s hs => by
        have := List.all_eq_true.1 ha s hs
        simpa using this)
  · rw [if_neg ha] at h; cases h
end Go.Proofs.Ytgfjccegehnjcaa.Q

/- The reference takes away what cancels first, as the program does. -/
namespace Go.Proofs.Ytgfjccegehnjcaa.Pure
open Go.RowKit Go.Proofs.Ytgfjccegehnjcaa.Q Go.Proofs.YtgfjccegehnjcaaW.PrintWords Go.Proofs.YtgfjccegehnjcaaW.PrintLast Go.Proofs.YtgfjccegehnjcaaW.PrintMore
set_option linter.unusedVariables false
set_option linter.unusedSimpArgs false

abbrev StepZ := S59
def stepAt : Nat → List StepZ → Nat → Option (List StepZ)
  | 0, _, _ => none
  | n + 1, l, i => if cancelN (l.drop i) = 0 then stepAt n l (i + 1) else some (l.take i ++ l.drop (i + cancelN (l.drop i)))
def ansOf (l : List StepZ) : Option (List StepZ) → List StepZ × Bool
  | none => (l, false)
  | some m => (m, true)
def specSimp : Nat → List StepZ → List StepZ
  | 0, l => l
  | n + 1, l => match stepAt l.length l 0 with
    | none => l
    | some m => specSimp n m
theorem rdZ_nat (l : List StepZ) (i : Nat) (h : i < l.length) : rd_T59 l (i : Int) = l[i] := by simp [rd_T59, h]
theorem many_two (k : Int) : manyOf k = 0 ∨ 2 ≤ manyOf k := by
  unfold manyOf
  (repeat' split) <;> simp
theorem canc_val (l : List StepZ) (M : Nat) (hM : manyOf (rd_T59 l 0).f0 = M) : cancelN l = if M = 0 then 0 else if l.length < M then 0 else if (l.take M).any (otherKind l) = true then 0 else M := by
  subst hM
  rfl
theorem no_other (l : List StepZ) (M : Nat) (h : ∀ u ∈ l.take M, u.f0 = (rd_T59 l 0).f0) : ¬ (l.take M).any (otherKind l) = true := fun z => by
  obtain ⟨u, hu, ho⟩ := List.any_eq_true.1 z
  unfold otherKind at ho
  exact bne_iff_ne.1 ho (h u hu)
theorem has_other (l : List StepZ) (M : Nat) {u : StepZ} (hu : u ∈ l.take M) (hn : u.f0 ≠ (rd_T59 l 0).f0) : (l.take M).any (otherKind l) = true :=
  List.any_eq_true.2 ⟨u, hu, by unfold otherKind; exact bne_iff_ne.2 hn⟩
theorem cancel_one (s : StepZ) : cancelN [s] = 0 := by
  unfold cancelN
  by_cases c : manyOf (rd_T59 [s] 0).f0 = 0
  · rw [if_pos c]
  · have h2 := many_two (rd_T59 [s] 0).f0
    rw [if_neg c, if_pos (by rw [List.length_singleton]; omega)]
def four (s t : StepZ) : List StepZ → Bool
  | u :: v :: _ => decide (s.f0 = 1 ∧ t.f0 = 1 ∧ u.f0 = 1 ∧ v.f0 = 1)
  | _ => false
theorem four_one {s t : StepZ} {r : List StepZ} (h : s.f0 ≠ 1) : four s t r = false := by
  unfold four
  split
  · exact decide_eq_false (fun z => h z.1)
  · rfl
theorem cancel_two (s t : StepZ) (r : List StepZ) : cancelN (s :: t :: r) = if s.f0 = t.f0 ∧ (s.f0 = 0 ∨ s.f0 = 2) then 2 else if four s t r = true then 4 else 0 := by
  have e : rd_T59 (s :: t :: r) 0 = s := rfl
  by_cases k0 : s.f0 = 0 ∨ s.f0 = 2
  · have hm : manyOf s.f0 = 2 := by rcases k0 with h | h <;> rw [h] <;> rfl
    have hf : four s t r = false := four_one (by omega)
    have hv := canc_val (s :: t :: r) 2 (by rw [e]; exact hm)
    rw [if_neg (show ¬ (2 : Nat) = 0 by decide), if_neg (show ¬ (s :: t :: r).length < 2 by simp)] at hv
    rw [hv, hf]
    by_cases c : s.f0 = t.f0
    · have hn := no_other (s :: t :: r) 2 (fun u hu => by
        have hu : u ∈ [s, t] := hu
        rw [e]
        rcases List.mem_cons.1 hu with h | h
        · rw [h]
        · rw [List.mem_singleton.1 h]; exact c.symm)
      rw [if_neg hn, if_pos ⟨c, k0⟩]
    · have hn := has_other (s :: t :: r) 2 (u := t) (show t ∈ [s, t] by simp) (by rw [e]; exact fun z => c z.symm)
      rw [if_pos hn, if_neg (fun z => c z.1), if_neg (by simp)]
  · by_cases k1 : s.f0 = 1
    · have hm : manyOf s.f0 = 4 := by rw [k1]; rfl
      have hv := canc_val (s :: t :: r) 4 (by rw [e]; exact hm)
      rw [if_neg (show ¬ (4 : Nat) = 0 by decide)] at hv
      match r with
      | [] =>
        rw [if_pos (show [s, t].length < 4 by simp)] at hv
        rw [hv, if_neg (fun z => k0 z.2)]
        rfl
      | [u] =>
        rw [if_pos (show [s, t, u].length < 4 by simp)] at hv
        rw [hv, if_neg (fun z => k0 z.2)]
        rfl
      | u :: v :: r' =>
        rw [if_neg (show ¬ (s :: t :: u :: v :: r').length < 4 by simp)] at hv
        rw [hv, if_neg (c := s.f0 = t.f0 ∧ (s.f0 = 0 ∨ s.f0 = 2)) (fun z => k0 z.2)]
        by_cases c : t.f0 = 1 ∧ u.f0 = 1 ∧ v.f0 = 1
        · have hn := no_other (s :: t :: u :: v :: r') 4 (fun x hx => by
            have hx : x ∈ [s, t, u, v] := hx
            rw [e, k1]
            simp only [List.mem_cons, List.not_mem_nil, or_false] at hx
            rcases hx with rfl | rfl | rfl | rfl
            · exact k1
            · exact c.1
            · exact c.2.1
            · exact c.2.2)
          rw [if_neg hn, if_pos (show four s t (u :: v :: r') = true from decide_eq_true ⟨k1, c⟩)]
        · have hn : ((s :: t :: u :: v :: r').take 4).any (otherKind (s :: t :: u :: v :: r')) = true := by
            by_cases c1 : t.f0 = 1
            · by_cases c2 : u.f0 = 1
              · exact has_other _ 4 (u := v) (show v ∈ [s, t, u, v] by simp) (by rw [e, k1]; exact fun z => c ⟨c1, c2, z⟩)
              · exact has_other _ 4 (u := u) (show u ∈ [s, t, u, v] by simp) (by rw [e, k1]; exact c2)
            · exact has_other _ 4 (u := t) (show t ∈ [s, t, u, v] by simp) (by rw [e, k1]; exact c1)
          rw [if_pos hn, if_neg (show ¬ four s t (u :: v :: r') = true from fun z => c (of_decide_eq_true z).2)]
    · have hm : manyOf s.f0 = 0 := by
        unfold manyOf
        rw [if_neg (fun z => k0 (.inl z)), if_neg (fun z => k0 (.inr z)), if_neg k1]
      have hv := canc_val (s :: t :: r) 0 (by rw [e]; exact hm)
      rw [if_pos rfl] at hv
      rw [hv, if_neg (fun z => k0 z.2), four_one k1]
      rfl
theorem sl_end (l : List StepZ) (i k : Nat) (hl : l.length ≤ 1000000) (h : l.length ≤ i + 1) (hi : i ≤ l.length) : spec_simpler.l0 (k + 1) l (i : Int) = some (l, false) := by
  simp only [spec_simpler.l0]
  rw [w64n i (by omega), if_neg (by omega)]
def sameZ (s t : StepZ) : Bool := decide (s.f0 = t.f0 ∧ (s.f0 = 0 ∨ s.f0 = 2))
theorem sl_go (l : List StepZ) (i k : Nat) (hl : l.length ≤ 1000000) (h : i + 1 < l.length) : spec_simpler.l0 (k + 1) l (i : Int) = spec_simpler.j1 k l (i : Int) (l[i].f0 == l[i + 1].f0) (sameZ l[i] l[i + 1]) := by
  simp only [spec_simpler.l0]
  rw [w64n i (by omega), if_pos (by omega), if_pos (by omega), if_pos (by omega), if_pos (by omega), rdZ_nat l i (by omega), rdZ_nat l (i + 1) h]
  generalize l[i] = s
  generalize l[i + 1] = t
  by_cases c : s.f0 = t.f0
  · rw [if_pos c]
    by_cases h0 : s.f0 = 0
    · rw [if_pos h0, show sameZ s t = true from decide_eq_true ⟨c, .inl h0⟩]
    · rw [if_neg h0]
      by_cases h2 : s.f0 = 2
      · rw [show sameZ s t = true from decide_eq_true ⟨c, .inr h2⟩, show (s.f0 == 2) = true from beq_iff_eq.2 h2]
      · rw [show sameZ s t = false from decide_eq_false (fun z => z.2.elim h0 h2), show (s.f0 == 2) = false from beq_eq_false_iff_ne.2 h2]
  · rw [if_neg c, show sameZ s t = false from decide_eq_false (fun z => c z.1)]
theorem sl_two (l : List StepZ) (i k : Nat) (b : Bool) (hl : l.length ≤ 1000000) (h : i + 1 < l.length) : spec_simpler.j1 (k + 1) l (i : Int) b true = some (l.take i ++ l.drop (i + 2), true) := by
  have e2 : wrap64 ((i : Int) + 2) = ((i + 2 : Nat) : Int) := by rw [w64 (by omega) (by omega)]; omega
  rw [spec_simpler.j1, if_pos rfl, Option.bind_some, if_pos (by omega), if_pos (by omega), Option.bind_some, if_pos (by rw [Int.toNat_natCast, List.length_nil, List.length_take]; omega), Option.bind_some, e2, if_pos (by omega), if_pos (by omega), Option.bind_some, if_pos (by rw [List.nil_append, Int.toNat_natCast, Int.toNat_natCast, List.length_take, List.length_drop]; omega), Int.toNat_natCast, Int.toNat_natCast, List.nil_append]
theorem sl_four (l : List StepZ) (i k : Nat) (hl : l.length ≤ 1000000) (h : i + 3 < l.length) (a1 : l[i].f0 = 1) (a3 : l[i + 2].f0 = 1) (a4 : l[i + 3].f0 = 1) : spec_simpler.j1 (k + 1) l (i : Int) true false = some (l.take i ++ l.drop (i + 4), true) := by
  have e2 : wrap64 ((i : Int) + 2) = ((i + 2 : Nat) : Int) := by rw [w64 (by omega) (by omega)]; omega
  have e3 : wrap64 ((i : Int) + 3) = ((i + 3 : Nat) : Int) := by rw [w64 (by omega) (by omega)]; omega
  have e4 : wrap64 ((i : Int) + 4) = ((i + 4 : Nat) : Int) := by rw [w64 (by omega) (by omega)]; omega
  rw [spec_simpler.j1, if_neg (by decide), e3, if_pos (by omega), if_pos (by omega), if_pos (by omega), rdZ_nat l i (by omega), if_pos a1, if_pos rfl, e2, if_pos (by omega), if_pos (by omega), rdZ_nat l (i + 2) (by omega), if_pos a3, if_pos (by omega), rdZ_nat l (i + 3) h, if_pos a4, Option.bind_some, if_pos (by omega), Option.bind_some, if_pos (by rw [Int.toNat_natCast, List.length_nil, List.length_take]; omega), Option.bind_some, e4, if_pos (by omega), if_pos (by omega), Option.bind_some, if_pos (by rw [List.nil_append, Int.toNat_natCast, Int.toNat_natCast, List.length_take, List.length_drop]; omega), Int.toNat_natCast, Int.toNat_natCast, List.nil_append]
theorem sl_next (l : List StepZ) (i k : Nat) (b : Bool) (hl : l.length ≤ 1000000) (h : i + 1 < l.length) (hn : ∀ h3 : i + 3 < l.length, ¬ (l[i].f0 = 1 ∧ b = true ∧ l[i + 2].f0 = 1 ∧ l[i + 3].f0 = 1)) : spec_simpler.j1 (k + 1) l (i : Int) b false = spec_simpler.l0 k l ((i + 1 : Nat) : Int) := by
  have e2 : wrap64 ((i : Int) + 2) = ((i + 2 : Nat) : Int) := by rw [w64 (by omega) (by omega)]; omega
  have e3 : wrap64 ((i : Int) + 3) = ((i + 3 : Nat) : Int) := by rw [w64 (by omega) (by omega)]; omega
  rw [spec_simpler.j1, if_neg (by decide), w64n i (by omega), e2, e3]
  by_cases h3 : i + 3 < l.length
  · have hn := hn h3
    rw [if_pos (by omega), if_pos (by omega), if_pos (by omega), rdZ_nat l i (by omega), rdZ_nat l (i + 2) (by omega), rdZ_nat l (i + 3) h3]
    by_cases a1 : l[i].f0 = 1
    · rw [if_pos a1]
      by_cases a2 : b = true
      · rw [if_pos a2, if_pos (by omega), if_pos (by omega)]
        by_cases a3 : l[i + 2].f0 = 1
        · rw [if_pos a3, if_pos (by omega), if_neg (fun a4 => hn ⟨a1, a2, a3, a4⟩)]
        · rw [if_neg a3]
      · rw [if_neg a2]
    · rw [if_neg a1]
  · rw [if_neg (by omega)]
theorem four_short {s t : StepZ} {r : List StepZ} (h : r.length ≤ 1) : four s t r = false := by
  match r, h with
  | [], _ => rfl
  | [_], _ => rfl
  | _ :: _ :: _, h => simp at h
theorem simpler_loop (l : List StepZ) (hl : l.length ≤ 1000000) (n : Nat) : ∀ (i : Nat), i + n = l.length → Ev (fun k => spec_simpler.l0 k l (i : Int)) (ansOf l (stepAt n l i)) := by
  induction n with
  | zero => exact fun i hi => Ev.step (f := fun _ => some (l, false)) (fun k => sl_end l i k hl (by omega) (by omega)) (Ev.now _)
  | succ n ih =>
    intro i hi
    have hlt : i < l.length := by omega
    by_cases h1 : i + 1 = l.length
    · have hn : n = 0 := by omega
      subst hn
      have hd : l.drop i = [l[i]] := by rw [List.drop_eq_getElem_cons hlt, List.drop_of_length_le (by omega)]
      have hs : stepAt (0 + 1) l i = none := by
        rw [stepAt, hd, cancel_one]
        rfl
      rw [hs]
      exact Ev.step (f := fun _ => some (l, false)) (fun k => sl_end l i k hl (by omega) (by omega)) (Ev.now _)
    · have hlt1 : i + 1 < l.length := by omega
      have hd : l.drop i = l[i] :: l[i + 1] :: l.drop (i + 2) := by rw [List.drop_eq_getElem_cons hlt, List.drop_eq_getElem_cons hlt1]
      have hc := cancel_two l[i] l[i + 1] (l.drop (i + 2))
      rw [← hd] at hc
      have ih := ih (i + 1) (by omega)
      refine Ev.step (f := fun k => spec_simpler.j1 k l (i : Int) (l[i].f0 == l[i + 1].f0) (sameZ l[i] l[i + 1])) (fun k => sl_go l i k hl hlt1) ?_
      by_cases hp : l[i].f0 = l[i + 1].f0 ∧ (l[i].f0 = 0 ∨ l[i].f0 = 2)
      · rw [if_pos hp] at hc
        have hs : stepAt (n + 1) l i = some (l.take i ++ l.drop (i + 2)) := by
          rw [stepAt, hc]
          rfl
        rw [hs, show sameZ l[i] l[i + 1] = true from decide_eq_true hp]
        exact Ev.step (f := fun _ => some (l.take i ++ l.drop (i + 2), true)) (fun k => sl_two l i k _ hl hlt1) (Ev.now _)
      · rw [if_neg hp] at hc
        rw [show sameZ l[i] l[i + 1] = false from decide_eq_false hp]
        by_cases hq : four l[i] l[i + 1] (l.drop (i + 2)) = true
        · rw [if_pos hq] at hc
          have hs : stepAt (n + 1) l i = some (l.take i ++ l.drop (i + 4)) := by
            rw [stepAt, hc]
            rfl
          rw [hs]
          by_cases h3 : i + 3 < l.length
          · have hd2 : l.drop (i + 2) = l[i + 2] :: l[i + 3] :: l.drop (i + 4) := by rw [List.drop_eq_getElem_cons (show i + 2 < l.length by omega), List.drop_eq_getElem_cons h3]
            rw [hd2] at hq
            obtain ⟨a1, a2, a3, a4⟩ := of_decide_eq_true hq
            rw [show (l[i].f0 == l[i + 1].f0) = true from beq_iff_eq.2 (a1.trans a2.symm)]
            exact Ev.step (f := fun _ => some (l.take i ++ l.drop (i + 4), true)) (fun k => sl_four l i k hl h3 a1 a3 a4) (Ev.now _)
          · rw [four_short (by rw [List.length_drop]; omega)] at hq
            cases hq
        · rw [if_neg hq] at hc
          have hs : stepAt (n + 1) l i = stepAt n l (i + 1) := by
            rw [stepAt, hc]
            rfl
          rw [hs]
          refine Ev.step (f := fun k => spec_simpler.l0 k l ((i + 1 : Nat) : Int)) (fun k => sl_next l i k _ hl hlt1 (fun h3 z => ?_)) ih
          have hd2 : l.drop (i + 2) = l[i + 2] :: l[i + 3] :: l.drop (i + 4) := by rw [List.drop_eq_getElem_cons (show i + 2 < l.length by omega), List.drop_eq_getElem_cons h3]
          rw [hd2] at hq
          obtain ⟨a1, a2, a3, a4⟩ := z
          exact hq (decide_eq_true ⟨a1, (beq_iff_eq.1 a2) ▸ a1, a3, a4⟩)
theorem simpler_some (l : List StepZ) (hl : l.length ≤ 1000000) : ∃ k, spec_simpler.f k l = some (ansOf l (stepAt l.length l 0)) := Ev.rounds (simpler_loop l hl l.length 0 (by omega))
theorem stepAt_len : ∀ (n : Nat) (l m : List StepZ) (i : Nat), stepAt n l i = some m → m.length < l.length ∧ ∀ s ∈ m, s ∈ l
  | 0, l, m, i, h => by cases h
  | n + 1, l, m, i, h => by
    rw [stepAt] at h
    by_cases c : cancelN (l.drop i) = 0
    · rw [if_pos c] at h
      exact stepAt_len n l m (i + 1) h
    · rw [if_neg c] at h
      obtain rfl := Option.some.inj h
      have hle := cancelN_le (l.drop i)
      rw [List.length_drop] at hle
      refine ⟨by rw [List.length_append, List.length_take, List.length_drop]; omega, fun s hs => ?_⟩
      rcases List.mem_append.1 hs with h | h
      · exact List.mem_of_mem_take h
      · exact List.mem_of_mem_drop h
theorem specSimp_sub : ∀ (n : Nat) (l : List StepZ), (specSimp n l).length ≤ l.length ∧ ∀ s ∈ specSimp n l, s ∈ l
  | 0, l => ⟨Nat.le_refl _, fun _ h => h⟩
  | n + 1, l => by
    rw [specSimp]
    cases h : stepAt l.length l 0 with
    | none => exact ⟨Nat.le_refl _, fun _ h => h⟩
    | some m =>
      have h1 := stepAt_len _ _ _ _ h
      have h2 := specSimp_sub n m
      exact ⟨by show (specSimp n m).length ≤ _; omega, fun s hs => h1.2 s (h2.2 s hs)⟩
theorem specSimp_done : ∀ (n : Nat) (l : List StepZ), l.length < n → stepAt (specSimp n l).length (specSimp n l) 0 = none
  | 0, l, h => by omega
  | n + 1, l, h => by
    rw [specSimp]
    cases hs : stepAt l.length l 0 with
    | none => exact hs
    | some m =>
      have h1 := stepAt_len _ _ _ _ hs
      exact specSimp_done n m (by omega)
theorem simpF_spec : ∀ (k : Nat) (l : List StepZ) (i n : Nat), l.length ≤ 12 → i ≤ l.length → l.length * 13 + (l.length - i) < k → l.length ≤ n → simpF k l i = match stepAt (l.length - i) l i with
    | none => l
    | some m => specSimp n m
  | 0, l, i, n, h12, hi, hm, hn => by omega
  | k + 1, l, i, n, h12, hi, hm, hn => by
    rw [simpF_succ]
    by_cases c : i < l.length
    · rw [if_pos c]
      obtain ⟨q, hq⟩ : ∃ q, l.length - i = q + 1 := ⟨l.length - i - 1, by omega⟩
      rw [hq, stepAt]
      by_cases c2 : cancelN (l.drop i) = 0
      · rw [if_pos c2, if_pos c2, simpF_spec k l (i + 1) n h12 (by omega) (by omega) hn, show l.length - (i + 1) = q by omega]
      · rw [if_neg c2, if_neg c2]
        have hle := cancelN_le (l.drop i)
        rw [List.length_drop] at hle
        have hml : (l.take i ++ l.drop (i + cancelN (l.drop i))).length < l.length := by rw [List.length_append, List.length_take, List.length_drop]; omega
        generalize l.take i ++ l.drop (i + cancelN (l.drop i)) = m at hml ⊢
        obtain ⟨n', rfl⟩ : ∃ n', n = n' + 1 := ⟨n - 1, by omega⟩
        rw [simpF_spec k m 0 n' (by omega) (by omega) (by omega) (by omega), Nat.sub_zero]
        show _ = specSimp (n' + 1) m
        rw [specSimp]
    · rw [if_neg c, show l.length - i = 0 by omega]
      rfl
theorem simpF_eq (l : List StepZ) (h : l.length ≤ 12) : simpF 200 l 0 = specSimp 13 l := by
  rw [simpF_spec 200 l 0 12 h (by omega) (by omega) h, Nat.sub_zero, specSimp]
theorem simpF_twice (l : List StepZ) (h : l.length ≤ 12) : simpF 200 (specSimp 13 l) 0 = specSimp 13 l := by
  have h1 := specSimp_sub 13 l
  rw [simpF_eq _ (by omega), specSimp, specSimp_done 13 l (by omega)]
end Go.Proofs.Ytgfjccegehnjcaa.Pure

/- spec.SimplifySteps: what cancels is taken out, place by place. -/
namespace Go.Proofs.Ytgfjccegehnjcaa.Q
open Go.RowKit Go.Proofs.YtgfjccegehnjcaaW.PrintWords Go.Proofs.YtgfjccegehnjcaaW.PrintLast Go.Proofs.YtgfjccegehnjcaaW.PrintMore
attribute [local go_sem] max2_int min2_int max_two min_two max_three min_three max_four min_four
set_option linter.unusedVariables false
set_option linter.unusedSimpArgs false
open Go.Proofs.Ytgfjccegehnjcaa.Pure

def spec_SimplifySteps.f (l0 : List S59) : Option (List S59) := if l0.all (fun s => decide (s.f2.length ≤ 1000000)) = true then some (if 12 < l0.length then [] else specSimp 13 l0) else none
theorem copy_some (l : List Int) (h : l.length ≤ 1000000) : spec_copyInts.f l = some l := by
  unfold spec_copyInts.f
  simp only [Option.bind_some, List.nil_append, List.length_nil]
  rw [if_pos (by omega)]
set_option maxHeartbeats 4000000 in
set_option maxRecDepth 100000 in
theorem specSimp_some (A0 : Option Addr) (c0 : Nat) (l : List S59) (w : World) (hr0 : Kd.C k59 w A0 l.length l) (h12 : l.length ≤ 12) (hpx : ∀ s ∈ l, s.f2.length ≤ 1000000) :
    Calls Try.prog 40 #[.slice A0 l.length c0] w fun e w' => ∃ v0_ : Value, e = .returned v0_ ∧ Kd.V k59 59 w' w.heap.size (fun _ => True) v0_ (specSimp 13 l) ∧ Below w.heap.size w w' := by
  have HR := Aside0.mk hr0
  have hu := Try.underlying53
  have hus := Try.underlying59
  have q12 : decide ((l.length : Int) > 12) = false := decide_eq_false (by omega)
  have q12b : decide (12 < l.length) = false := decide_eq_false (by omega)
  clear hr0
  go_enter Try.func40, Try.ntmps40
  go_wp2_with (first
    | ((with_reducible refine gate_dst (N := 10) rfl ?_); refine Kd.R_lit k59 (w0 := w) w.heap.size 59 ?hg (N := 10) ?hd (xs := ([] : List S59)) (inner := []) (ok := fun _ => True) (okp := fun _ => True) ?hr ?hp (fun _ hk => hk) trivial (Below.refl _ _) (Nat.le_refl _) (by simp) ?_; (case hd => rfl); (case hg => rfl); (case hr => first | (go_simp; done) | (go_simp; rfl)); (case hp => exact (Reps.none _ _)); intro v10 w1 ho hb hg_ hnew_; have O1 := Aside0.mk (And.intro ho hb); clear ho hb hg_ hnew_))
  go_loopw [3, 4] (fun v3 v4 W => ∃ i : Nat, v4 = .int .i64 i ∧ i ≤ l.length ∧ Aside0 (Kd.R k59 59 W w.heap.size (fun _ => True) v3 (l.take i) ∧ Below w.heap.size w W)) (fun _ v4 _ => l.length - (intOf v4).toNat)
  case atStart => exact ⟨0, rfl, by omega, ⟨O1.out.1, O1.out.2⟩⟩
  case round =>
    clear O1
    obtain ⟨i, rfl, hi, HV⟩ := hrel
    by_cases hlt : i < l.length
    · have q1 : decide ((i : Int) < (l.length : Int)) = true := decide_eq_true (by omega)
      obtain ⟨ad, A5, c5, e, hx0, hx1, hx2, hx3, hx4, hx5, l5, g5⟩ := at_T59 (Kd.C_below HR.out HV.out.2) (i : Int) (by omega) (by omega)
      subst e
      rw [Int.toNat_natCast] at hx0 hx1 hx2 hx3 hx4 hx5
      have er : rd_T59 l (i : Int) = l[i] := by simp [rd_T59, hlt]
      have HTK := Aside0.mk (show l.take (i + 1) = l.take i ++ [rd_T59 l (i : Int)] from by rw [List.take_succ_eq_append_getElem hlt, er])
      have hpl : (rd_T59 l (i : Int)).f2.length ≤ 1000000 := by rw [er]; exact hpx _ (List.getElem_mem _)
      have HF5 := Aside0.mk (copy_some _ hpl)
      clear er hpl
      generalize rd_T59 l (i : Int) = x at *
      have HC5 := Aside0.mk g5
      have HL5 := Aside0.mk l5
      have hws : w.heap.size ≤ wr.heap.size := HV.out.2.size
      clear g5 l5
      go_wp2
      refine start_ (n := 21) (S := fun w' => w'.cell? (ad.add (i * 6)) = some (.int .i64 x.f0) ∧ w'.cell? (⟨(ad.add (i * 6)).block, (ad.add (i * 6)).off + 1, none⟩) = some (.int .i64 x.f1.f0) ∧ w'.cell? (⟨(ad.add (i * 6)).block, (ad.add (i * 6)).off + 2, none⟩) = some (.int .i64 x.f1.f1) ∧ w'.cell? (⟨(ad.add (i * 6)).block, (ad.add (i * 6)).off + 3, none⟩) = some (.int .i64 x.f1.f2) ∧ w'.cell? (⟨(ad.add (i * 6)).block, (ad.add (i * 6)).off + 4, none⟩) = some (.int .i64 x.f1.f3) ∧ w'.cell? (⟨(ad.add (i * 6)).block, (ad.add (i * 6)).off + 5, none⟩) = some (.slice A5 x.f2.length c5)) (ds := [19]) #[false, false, false, false, false, false, false, false, false, false, false, false, false, false, false, false, false, false, false, false, false] (by kernel_rfl) rfl rfl ⟨hx0, hx1, hx2, hx3, hx4, hx5⟩ (fun hHeld => ?_)
      refine pure_ (i := 0) (N := some 17) (v := ?_) (a' := ?_) #[true, false, false, false, false, false, false, false, false, false, false, false, false, false, false, false, false, false, false, false, false] rfl rfl (by kernel_rfl) (fun _ _ _ h => h) (Or.inl ⟨by rfl, ?_⟩) ?_ ?_
      rotate_left
      · intro w'
        go_simp
        with_reducible rfl
      rotate_left
      · simp only [Act.put, List.setIfInBounds_toArray, List.set_cons_zero, List.set_cons_succ, i64_w, i32_w]
        rfl
      refine pure_ (i := 1) (N := some 18) (v := ?_) (a' := ?_) #[true, true, false, false, false, false, false, false, false, false, false, false, false, false, false, false, false, false, false, false, false] rfl rfl (by kernel_rfl) (fun _ _ _ h => h) (Or.inl ⟨by rfl, ?_⟩) ?_ ?_
      rotate_left
      · intro w'
        go_simp
        with_reducible rfl
      rotate_left
      · simp only [Act.put, List.setIfInBounds_toArray, List.set_cons_zero, List.set_cons_succ, i64_w, i32_w]
        rfl
      refine pure_ (i := 2) (N := some 19) (v := ?_) (a' := ?_) #[true, true, true, false, false, false, false, false, false, false, false, false, false, false, false, false, false, false, false, false, false] rfl rfl (by kernel_rfl) (fun _ _ _ h => h) (Or.inl ⟨by rfl, ?_⟩) ?_ ?_
      rotate_left
      · intro w'
        go_simp
        with_reducible rfl
      rotate_left
      · simp only [Act.put, List.setIfInBounds_toArray, List.set_cons_zero, List.set_cons_succ, i64_w, i32_w]
        rfl
      refine pure_ (i := 3) (N := some 20) (v := ?_) (a' := ?_) #[true, true, true, true, false, false, false, false, false, false, false, false, false, false, false, false, false, false, false, false, false] rfl rfl (by kernel_rfl) (fun _ _ _ h => h) (Or.inl ⟨by rfl, ?_⟩) ?_ ?_
      rotate_left
      · intro w'
        go_simp
        with_reducible rfl
      rotate_left
      · simp only [Act.put, List.setIfInBounds_toArray, List.set_cons_zero, List.set_cons_succ, i64_w, i32_w]
        rfl
      refine pure_ (i := 4) (N := some 21) (v := ?_) (a' := ?_) #[true, true, true, true, true, false, false, false, false, false, false, false, false, false, false, false, false, false, false, false, false] rfl rfl (by kernel_rfl) (fun _ _ _ h => h) (Or.inl ⟨by rfl, ?_⟩) ?_ ?_
      rotate_left
      · intro w'
        go_simp
        with_reducible rfl
      rotate_left
      · simp only [Act.put, List.setIfInBounds_toArray, List.set_cons_zero, List.set_cons_succ, i64_w, i32_w]
        rfl
      refine pure_ (i := 6) (N := some 23) (v := ?_) (a' := ?_) #[true, true, true, true, true, false, true, false, false, false, false, false, false, false, false, false, false, false, false, false, false] rfl rfl (by kernel_rfl) (fun _ _ _ h => h) (Or.inl ⟨by rfl, ?_⟩) ?_ ?_
      rotate_left
      · intro w'
        go_simp
        with_reducible rfl
      rotate_left
      · simp only [Act.put, List.setIfInBounds_toArray, List.set_cons_zero, List.set_cons_succ, i64_w, i32_w]
        rfl
      refine pure_ (i := 7) (N := some 24) (v := ?_) (a' := ?_) #[true, true, true, true, true, false, true, true, false, false, false, false, false, false, false, false, false, false, false, false, false] rfl rfl (by kernel_rfl) (fun _ _ _ h => h) (Or.inl ⟨by rfl, ?_⟩) ?_ ?_
      rotate_left
      · intro w'
        go_simp
        with_reducible rfl
      rotate_left
      · simp only [Act.put, List.setIfInBounds_toArray, List.set_cons_zero, List.set_cons_succ, i64_w, i32_w]
        rfl
      refine pure_ (i := 8) (N := some 25) (v := ?_) (a' := ?_) #[true, true, true, true, true, false, true, true, true, false, false, false, false, false, false, false, false, false, false, false, false] rfl rfl (by kernel_rfl) (fun _ _ _ h => h) (Or.inl ⟨by rfl, ?_⟩) ?_ ?_
      rotate_left
      · intro w'
        go_simp
        with_reducible rfl
      rotate_left
      · simp only [Act.put, List.setIfInBounds_toArray, List.set_cons_zero, List.set_cons_succ, i64_w, i32_w]
        rfl
      refine pure_ (i := 9) (N := some 26) (v := ?_) (a' := ?_) #[true, true, true, true, true, false, true, true, true, true, false, false, false, false, false, false, false, false, false, false, false] rfl rfl (by kernel_rfl) (fun _ _ _ h => h) (Or.inl ⟨by rfl, ?_⟩) ?_ ?_
      rotate_left
      · intro w'
        go_simp
        with_reducible rfl
      rotate_left
      · simp only [Act.put, List.setIfInBounds_toArray, List.set_cons_zero, List.set_cons_succ, i64_w, i32_w]
        rfl
      refine pure_ (i := 11) (N := some 28) (v := ?_) (a' := ?_) #[true, true, true, true, true, false, true, true, true, true, false, true, false, false, false, false, false, false, false, false, false] rfl rfl (by kernel_rfl) (fun _ _ _ h => h) (Or.inl ⟨by rfl, ?_⟩) ?_ ?_
      rotate_left
      · intro w'
        go_simp
        with_reducible rfl
      rotate_left
      · simp only [Act.put, List.setIfInBounds_toArray, List.set_cons_zero, List.set_cons_succ, i64_w, i32_w]
        rfl
      refine pure_ (i := 12) (N := some 29) (v := ?_) (a' := ?_) #[true, true, true, true, true, false, true, true, true, true, false, true, true, false, false, false, false, false, false, false, false] rfl rfl (by kernel_rfl) (fun _ _ _ h => h) (Or.inl ⟨by rfl, ?_⟩) ?_ ?_
      rotate_left
      · intro w'
        go_simp
        with_reducible rfl
      rotate_left
      · simp only [Act.put, List.setIfInBounds_toArray, List.set_cons_zero, List.set_cons_succ, i64_w, i32_w]
        rfl
      refine pure_ (i := 13) (N := some 30) (v := ?_) (a' := ?_) #[true, true, true, true, true, false, true, true, true, true, false, true, true, true, false, false, false, false, false, false, false] rfl rfl (by kernel_rfl) (fun _ _ _ h => h) (Or.inl ⟨by rfl, ?_⟩) ?_ ?_
      rotate_left
      · intro w'
        go_simp
        with_reducible rfl
      rotate_left
      · simp only [Act.put, List.setIfInBounds_toArray, List.set_cons_zero, List.set_cons_succ, i64_w, i32_w]
        rfl
      refine pure_ (i := 14) (N := some 31) (v := ?_) (a' := ?_) #[true, true, true, true, true, false, true, true, true, true, false, true, true, true, true, false, false, false, false, false, false] rfl rfl (by kernel_rfl) (fun _ _ _ h => h) (Or.inl ⟨by rfl, ?_⟩) ?_ ?_
      rotate_left
      · intro w'
        go_simp
        with_reducible rfl
      rotate_left
      · simp only [Act.put, List.setIfInBounds_toArray, List.set_cons_zero, List.set_cons_succ, i64_w, i32_w]
        rfl
      refine take_ (i := 5) (N := some 22) (v := ?_) (a' := ?_) #[true, true, true, true, true, true, true, true, true, true, false, true, true, true, true, false, false, false, false, false, false] rfl rfl (by kernel_rfl) (fun _ _ _ h => h) (Or.inl ⟨by rfl, ?_⟩) hHeld ?_ ?_
      rotate_left
      · rintro w' ⟨s0, s1, s2, s3, s4, s5⟩
        go_simp
        with_reducible rfl
      rotate_left
      · simp only [Act.put, List.setIfInBounds_toArray, List.set_cons_zero, List.set_cons_succ, i64_w, i32_w]
        rfl
      refine take_ (i := 10) (N := some 27) (v := ?_) (a' := ?_) #[true, true, true, true, true, true, true, true, true, true, true, true, true, true, true, false, false, false, false, false, false] rfl rfl (by kernel_rfl) (fun _ _ _ h => h) (Or.inl ⟨by rfl, ?_⟩) hHeld ?_ ?_
      rotate_left
      · rintro w' ⟨s0, s1, s2, s3, s4, s5⟩
        go_simp
        with_reducible rfl
      rotate_left
      · simp only [Act.put, List.setIfInBounds_toArray, List.set_cons_zero, List.set_cons_succ, i64_w, i32_w]
        rfl
      refine take_ (i := 15) (N := some 32) (v := ?_) (a' := ?_) #[true, true, true, true, true, true, true, true, true, true, true, true, true, true, true, true, false, false, false, false, false] rfl rfl (by kernel_rfl) (fun _ _ _ h => h) (Or.inl ⟨by rfl, ?_⟩) hHeld ?_ ?_
      rotate_left
      · rintro w' ⟨s0, s1, s2, s3, s4, s5⟩
        go_simp
        with_reducible rfl
      rotate_left
      · simp only [Act.put, List.setIfInBounds_toArray, List.set_cons_zero, List.set_cons_succ, i64_w, i32_w]
        rfl
      refine one_ (i := 16) (N := some 33) #[true, true, true, true, true, true, true, true, true, true, true, true, true, true, true, true, true, false, false, false, false] rfl rfl (by kernel_rfl) (by decide) (fun K hK => ?_)
      refine goes_ Try.func74 (by kernel_rfl) rfl #[.slice A5 x.f2.length c5] (by rfl) rfl rfl (by simp only [List.map_toArray, List.map_cons, List.map_nil]; rfl) ?_
      with_reducible refine (spec_copyInts.calls A5 c5 x.f2 x.f2 _ (Kd.C_drew HC5.out) HL5.out HF5.out).mono ?_
      rintro e w3 ⟨v18, rfl, ho, hb⟩
      refine ⟨_, rfl, ?_⟩
      obtain ⟨A7, q7, e7⟩ := Kd.R_slice ho
      subst e7
      have RP3 := Aside0.mk (Kd.R_bound ho)
      have RO3 := Aside0.mk (Kd.R_old HV.out.1 (below_then (below_drew (Below.refl _ _)) (Nat.le_refl _) hb))
      have HB3 := Aside0.mk (below_then (below_drew HV.out.2) (below_drew HV.out.2).size hb)
      have y0 := Aside0.mk ((hb.cell (World.block_lt_of_cell? _ _ hx0)).trans hx0)
      have y1 := Aside0.mk ((hb.cell (World.block_lt_of_cell? _ _ hx1)).trans hx1)
      have y2 := Aside0.mk ((hb.cell (World.block_lt_of_cell? _ _ hx2)).trans hx2)
      have y3 := Aside0.mk ((hb.cell (World.block_lt_of_cell? _ _ hx3)).trans hx3)
      have y4 := Aside0.mk ((hb.cell (World.block_lt_of_cell? _ _ hx4)).trans hx4)
      have y5 := Aside0.mk ((hb.cell (World.block_lt_of_cell? _ _ hx5)).trans hx5)
      clear ho hb
      refine hK.out _ _ ⟨y0.out, y1.out, y2.out, y3.out, y4.out, y5.out⟩ (fun hHeld => ?_)
      clear hK K
      refine norm_ (a' := ?_) ?_ ?_
      rotate_left
      · show Act.put _ (some 33) _ = _
        simp only [Act.put, List.setIfInBounds_toArray, List.set_cons_zero, List.set_cons_succ, i64_w, i32_w]
        rfl
      refine pure_ (i := 17) (N := some 34) (v := ?_) (a' := ?_) #[true, true, true, true, true, true, true, true, true, true, true, true, true, true, true, true, true, true, false, false, false] rfl rfl (by kernel_rfl) (fun _ _ _ h => h) (Or.inl ⟨by rfl, ?_⟩) ?_ ?_
      rotate_left
      · intro w'
        go_simp
        with_reducible rfl
      rotate_left
      · simp only [Act.put, List.setIfInBounds_toArray, List.set_cons_zero, List.set_cons_succ, i64_w, i32_w]
        rfl
      refine one_ (i := 18) (N := some 35) #[true, true, true, true, true, true, true, true, true, true, true, true, true, true, true, true, true, true, true, false, false] rfl rfl (by kernel_rfl) (by decide) (fun K hK => ?_)
      refine value_ (w1 := ?_) (v := ?_) (by rfl) rfl ?_ ?_
      rotate_left 2
      · go_simp
        constructor
        · rfl
        · rfl
      refine hK.out _ _ ⟨((World.cell?_alloc_lt _ _ _ (World.block_lt_of_cell? _ _ y0.out)).trans y0.out), ((World.cell?_alloc_lt _ _ _ (World.block_lt_of_cell? _ _ y1.out)).trans y1.out), ((World.cell?_alloc_lt _ _ _ (World.block_lt_of_cell? _ _ y2.out)).trans y2.out), ((World.cell?_alloc_lt _ _ _ (World.block_lt_of_cell? _ _ y3.out)).trans y3.out), ((World.cell?_alloc_lt _ _ _ (World.block_lt_of_cell? _ _ y4.out)).trans y4.out), ((World.cell?_alloc_lt _ _ _ (World.block_lt_of_cell? _ _ y5.out)).trans y5.out)⟩ (fun hHeld => ?_)
      clear hK K
      refine norm_ (a' := ?_) ?_ ?_
      rotate_left
      · show Act.put _ (some 35) _ = _
        simp only [Act.put, List.setIfInBounds_toArray, List.set_cons_zero, List.set_cons_succ, i64_w, i32_w]
        rfl
      refine last_ (i := 19) (N := some 36) #[true, true, true, true, true, true, true, true, true, true, true, true, true, true, true, true, true, true, true, true, false] rfl rfl (by kernel_rfl) (by decide) (fun K hK => ?_)
      refine Kd.R_append_step k59 (w0 := w) w.heap.size (by rfl) (.tmp 17) (.tmp 35) 53 59 (.agg #[(.int .i64 0), (.int .i64 0), (.int .i64 0), (.int .i64 0), (.int .i64 0), (.slice none 0 0)]) 64 rfl Try.underlying53 info59 rfl (by decide) (by omega) u3 (l.take i) x [.int .i64 x.f0, .int .i64 x.f1.f0, .int .i64 x.f1.f1, .int .i64 x.f1.f2, .int .i64 x.f1.f3, (.slice A7 x.f2.length q7)] (fun _ => True) (fun k => some k ≠ u3.ownBlock) rfl rfl (k59_mkM _ _ _ x (Kd.R_lower (Kd.R_mono RP3.out (fun k hk he => by have h1 : wr.heap.size ≤ k := hk.2.1; have h2 := (RO3.out.1 k he.symm).2; omega)) hws)) (fun k hk => ⟨trivial, hk⟩) (fun _ _ => trivial) (Kd.R_mono RO3.out (fun _ _ => trivial)) HB3.out HB3.out.size (by rw [List.length_take]; omega) ?_
      intro v5 w5 ho hb5 hg hat
      have O5 := Aside0.mk (And.intro ho hb5)
      clear ho hb5 hg hat
      refine hK.out _ _ ?_
      clear hK K
      refine norm_ (a' := ?_) ?_ ?_
      rotate_left
      · show Act.put _ (some 36) _ = _
        simp only [Act.put, List.setIfInBounds_toArray, List.set_cons_zero, List.set_cons_succ, i64_w, i32_w]
        rfl
      refine pure_ (i := 20) (N := some 3) (v := ?_) (a' := ?_) #[true, true, true, true, true, true, true, true, true, true, true, true, true, true, true, true, true, true, true, true, true] rfl rfl (by kernel_rfl) (fun _ _ _ h => h) (Or.inl ⟨by rfl, ?_⟩) ?_ ?_
      rotate_left
      · intro w'
        go_simp
        with_reducible rfl
      rotate_left
      · simp only [Act.put, List.setIfInBounds_toArray, List.set_cons_zero, List.set_cons_succ, i64_w, i32_w]
        rfl
      refine done_ (by kernel_rfl) ?_
      go_wp2
      go_roundw
      case rel => exact ⟨i + 1, by go_num, by omega, ⟨by rw [HTK.out]; exact O5.out.1, O5.out.2⟩⟩
      case measure => simp [intOf]; omega
    · have q1 : decide ((i : Int) < (l.length : Int)) = false := decide_eq_false (by omega)
      have htl : l.take i = l := List.take_of_length_le (by omega)
      rw [htl] at HV
      go_wp2
      go_loopg [3] 13 (fun kq v3 W => ∃ (cur : List S59), cur.length < kq ∧ cur.length ≤ 12 ∧ Aside0 (Kd.V k59 59 W w.heap.size (fun _ => True) v3 cur ∧ Below w.heap.size w W ∧ specSimp kq cur = specSimp 13 l))
      case atStart => exact ⟨l, by omega, h12, ⟨Kd.R_V HV.out.1, HV.out.2, rfl⟩⟩
      case round =>
        clear HV htl
        obtain ⟨cur, hms, h12c, HV⟩ := hrel
        cases gk with
        | zero => omega
        | succ k1 =>
          obtain ⟨kf, hkf⟩ := simpler_some cur (by omega)
          have hsf := HV.out.2.2
          rw [specSimp] at hsf
          obtain ⟨A3, c3, e3⟩ := Kd.V_slice HV.out.1
          obtain rfl : u3 = .slice A3 cur.length c3 := by
            obtain ⟨A4, c4, e4, _⟩ := HV.out.1
            rw [e4] at e3 ⊢
            injection e3 with ea _ ec
            rw [ea, ec]
          cases hst : stepAt cur.length cur 0 with
          | none =>
            rw [hst] at hkf hsf
            have HS := Aside0.mk (spec_simpler.calls kf (fun _ => True) A3 c3 cur cur false wr (Kd.V_map HV.out.1 (fun _ hf => hf)) hkf)
            have HSF := Aside0.mk hsf
            clear hkf hsf e3 hst
            go_wp2_with (first
              | (go_at_call 75; (with_reducible refine (HS.out).mono ?_); rintro e w2 ⟨v39, rfl, hv, hb⟩; have HV2 := Aside0.mk (Kd.V_below HV.out.1 hb); have HB2 := Aside0.mk (below_then HV.out.2.1 HV.out.2.1.size hb); clear hb hv))
            go_ret
            exact ⟨_, rfl, by rw [← HSF.out]; exact HV2.out, HB2.out⟩
          | some m =>
            have hml := (stepAt_len _ _ _ _ hst).1
            rw [hst] at hkf hsf
            have HS := Aside0.mk (spec_simpler.calls kf (fun _ => True) A3 c3 cur m true wr (Kd.V_map HV.out.1 (fun _ hf => hf)) hkf)
            have HSF := Aside0.mk hsf
            clear hkf hsf e3 hst
            go_wp2_with (first
              | (go_at_call 75; (with_reducible refine (HS.out).mono ?_); rintro e w2 ⟨v39, rfl, hv, hb⟩; have HV2 := Aside0.mk (Kd.V_map (base' := w.heap.size) (Kd.V_mono (ok' := fun _ => True) hv (fun _ _ => trivial)) (fun _ hf => hf)); have HB2 := Aside0.mk (below_then HV.out.2.1 HV.out.2.1.size hb); clear hb hv))
            go_roundg k1
            case measure => omega
            case rel => exact ⟨m, by omega, by omega, ⟨HV2.out, HB2.out, HSF.out⟩⟩
theorem spec_SimplifySteps.calls (A0 : Option Addr) (c0 : Nat) (l0 : List S59) (r : List S59) (w : World) (hr0 : Kd.C k59 w A0 l0.length l0) (hc0 : l0.length ≤ c0) (h : spec_SimplifySteps.f l0 = some r) :
    Calls Try.prog 40 #[.slice A0 l0.length c0] w fun e w' => ∃ v0_ : Value, e = .returned (v0_) ∧ Kd.V k59 59 w' w.heap.size (fun _ => True) v0_ r ∧ Below w.heap.size w w' := by
  unfold spec_SimplifySteps.f at h
  by_cases ha : l0.all (fun s => decide (s.f2.length ≤ 1000000)) = true
  · rw [if_pos ha] at h
    by_cases h12 : 12 < l0.length
    · rw [if_pos h12] at h
      obtain rfl := Option.some.inj h
      have q12 : decide ((l0.length : Int) > 12) = true := decide_eq_true (by omega)
      have q12b : decide (12 < l0.length) = true := decide_eq_true (by omega)
      clear hr0
      go_enter Try.func40, Try.ntmps40
      go_wp2
      go_ret
      exact ⟨_, rfl, Kd.V_nil _ _ _ _ _, Below.refl _ _⟩
    · rw [if_neg h12] at h
      obtain rfl := Option.some.inj h
      exact specSimp_some A0 c0 l0 w hr0 (by omega) (fun s hs => by
        have := List.all_eq_true.1 ha s hs
        simpa using this)
  · rw [if_neg ha] at h; cases h
end Go.Proofs.Ytgfjccegehnjcaa.Q
