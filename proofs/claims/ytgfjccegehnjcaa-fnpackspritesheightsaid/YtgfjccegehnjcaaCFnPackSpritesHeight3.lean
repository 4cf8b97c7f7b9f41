/- A part of the proof that the statement FnPackSpritesHeightSaid holds, under no condition of its own: Atlases are not lower than they can be: the law FnPackSpritesHeight over numbers and lists alone. -/
import Derived.Test.YtgfjccegehnjcaaCFnPackSpritesHeight1
import Derived.Test.YtgfjccegehnjcaaCFnPackSpritesHeight2
namespace Go.Proofs.Ytgfjccegehnjcaa.Q
open Go.RowKit Go.Proofs.YtgfjccegehnjcaaW.PrintWords Go.Proofs.YtgfjccegehnjcaaW.PrintLast Go.Proofs.YtgfjccegehnjcaaW.PrintMore
attribute [local go_sem] max2_int min2_int max_two min_two max_three min_three max_four min_four
set_option linter.unusedVariables false
set_option linter.unusedSimpArgs false
mutual
def spec_PackSprites.l0 : Nat → List (S42) → Int → List (S50) → List Int → List Int → Int → List Int → Int → Option ((List (S50)) × Int)
  | 0, _, _, _, _, _, _, _, _ => none
  | k + 1, x0, x1, x6, x7, x8, x9, x10, x11 => if x11 < (x10.length : Int) then (if 0 ≤ x11 then (if 0 ≤ (rd x10 x11) then (if (rd x10 x11) < (x0.length : Int) then (spec_PackSprites.l1 k x0 x1 x6 x7 x8 x9 x10 x11 0 ((rd_T42 x0 (rd x10 x11)).f0) ((rd_T42 x0 (rd x10 x11)).f1)) else (none)) else (none)) else (none)) else (some (x6, x9))
def spec_PackSprites.l1 : Nat → List (S42) → Int → List (S50) → List Int → List Int → Int → List Int → Int → Int → Int → Int → Option ((List (S50)) × Int)
  | 0, _, _, _, _, _, _, _, _, _, _, _ => none
  | k + 1, x0, x1, x6, x7, x8, x9, x10, x11, x13, x36017000, x36017001 => if x13 < (x8.length : Int) then (if 0 ≤ x13 then (if (wrap64 ((rd x8 x13) + x36017000)) > x1 then (spec_PackSprites.l1 k x0 x1 x6 x7 x8 x9 x10 x11 (wrap64 (x13 + 1)) x36017000 x36017001) else (if x13 = (x8.length : Int) then (if x7.length < 17592186044416 then ((some (x7 ++ [x9] : List Int)).bind fun y36018 => (if x8.length < 17592186044416 then ((some (x8 ++ [0] : List Int)).bind fun y36021 => (if 0 ≤ x11 then (if x11 < (x10.length : Int) then (if x13 < (y36021.length : Int) then (if x13 < (y36018.length : Int) then (if 0 ≤ (rd x10 x11) then (if (rd x10 x11) < (x6.length : Int) then (spec_PackSprites.l0 k x0 x1 (x6.set ((rd x10 x11) : Int).toNat (⟨rd y36021 x13, rd y36018 x13, x36017000, x36017001⟩ : S50)) y36018 (y36021.set (x13 : Int).toNat (wrap64 ((rd y36021 x13) + x36017000))) (wrap64 (x9 + x36017001)) x10 (wrap64 (x11 + 1))) else (none)) else (none)) else (none)) else (none)) else (none)) else (none))) else (none))) else (none)) else (if 0 ≤ x11 then (if x11 < (x10.length : Int) then (if x13 < (x7.length : Int) then (if 0 ≤ (rd x10 x11) then (if (rd x10 x11) < (x6.length : Int) then (spec_PackSprites.l0 k x0 x1 (x6.set ((rd x10 x11) : Int).toNat (⟨rd x8 x13, rd x7 x13, x36017000, x36017001⟩ : S50)) x7 (x8.set (x13 : Int).toNat (wrap64 ((rd x8 x13) + x36017000))) x9 x10 (wrap64 (x11 + 1))) else (none)) else (none)) else (none)) else (none)) else (none)))) else (none)) else (if x13 = (x8.length : Int) then (if x7.length < 17592186044416 then ((some (x7 ++ [x9] : List Int)).bind fun y36036 => (if x8.length < 17592186044416 then ((some (x8 ++ [0] : List Int)).bind fun y36039 => (if 0 ≤ x11 then (if x11 < (x10.length : Int) then (if 0 ≤ x13 then (if x13 < (y36039.length : Int) then (if x13 < (y36036.length : Int) then (if 0 ≤ (rd x10 x11) then (if (rd x10 x11) < (x6.length : Int) then (spec_PackSprites.l0 k x0 x1 (x6.set ((rd x10 x11) : Int).toNat (⟨rd y36039 x13, rd y36036 x13, x36017000, x36017001⟩ : S50)) y36036 (y36039.set (x13 : Int).toNat (wrap64 ((rd y36039 x13) + x36017000))) (wrap64 (x9 + x36017001)) x10 (wrap64 (x11 + 1))) else (none)) else (none)) else (none)) else (none)) else (none)) else (none)) else (none))) else (none))) else (none)) else (if 0 ≤ x11 then (if x11 < (x10.length : Int) then (if 0 ≤ x13 then (none) else (none)) else (none)) else (none)))
end
def spec_PackSprites.f (k : Nat) (l0 : List (S42)) (a1 : Int) : Option ((List (S50)) × Int) := (spec_validSprites.f k l0 a1).bind fun t36001 => (if t36001 = true then (if 0 ≤ (l0.length : Int) then (if ((l0.length : Int) : Int).toNat ≤ 8796093022208 then ((spec_tallFirst.f k l0).bind fun t36011 => (spec_PackSprites.l0 k l0 a1 (List.replicate ((l0.length : Int) : Int).toNat z50) (([] : List Int)) (([] : List Int)) 0 t36011 0)) else (none)) else (none)) else (some (([] : List (S50)), (-1))))
def spec_PackSprites.T13 : Bool × List (List Nat × List Nat) := (true, [([], []), ([], []), ([1], [1]), ([0, 2], [0, 2]), ([3], [3]), ([4], [4]), ([4], [4]), ([5, 6, 4], [4, 5, 6]), ([7, 4], [4, 7]), ([4], [4]), ([9, 4], [4, 9]), ([8, 10, 4], [4, 8, 10]), ([4], [4]), ([11, 12, 4], [4, 11, 12]), ([4, 13], [4, 13])])
def spec_PackSprites.B13 : List Nat := [0, 0, 2, 7, 15, 31, 31, 127, 255, 31, 543, 2047, 31, 8191, 16383]
theorem spec_PackSprites.tab13 : rtab .any (opsOf Try.f35 13) = spec_PackSprites.T13 := by kernel_rfl
theorem spec_PackSprites.bits13 : waitsOk spec_PackSprites.T13.2 spec_PackSprites.B13 = true := by kernel_rfl
def spec_PackSprites.T19 : Bool × List (List Nat × List Nat) := (true, [([], []), ([], []), ([], []), ([1, 2], [1, 2]), ([3], [3]), ([], []), ([], []), ([5, 6], [5, 6]), ([7], [7]), ([], []), ([], []), ([9, 10], [9, 10]), ([11], [11]), ([], []), ([13], [13]), ([], []), ([15], [15]), ([8, 12, 14, 16], [8, 12, 14, 16]), ([0, 4, 0, 1, 2, 3, 4, 5, 6, 7, 8, 9, 10, 11, 12, 13, 14, 15, 16, 17], [0, 4]), ([18, 17, 0, 1, 2, 3, 4, 5, 6, 7, 8, 9, 10, 11, 12, 13, 14, 15, 16, 17], [17, 18])])
def spec_PackSprites.B19 : List Nat := [0, 0, 0, 6, 14, 0, 0, 96, 224, 0, 0, 1536, 3584, 0, 8192, 0, 32768, 131040, 262143, 524287]
theorem spec_PackSprites.tab19 : rtab .any (opsOf Try.f35 19) = spec_PackSprites.T19 := by kernel_rfl
theorem spec_PackSprites.bits19 : waitsOk spec_PackSprites.T19.2 spec_PackSprites.B19 = true := by kernel_rfl
def spec_PackSprites.T20 : Bool × List (List Nat × List Nat) := (true, [([], []), ([], []), ([], []), ([], []), ([2, 3], [2, 3]), ([4], [4]), ([], []), ([6], [6]), ([5, 7], [5, 7]), ([0, 1, 0, 1, 2, 3, 4, 5, 6, 7, 8], [0, 1]), ([9, 8, 0, 1, 2, 3, 4, 5, 6, 7, 8], [8, 9])])
def spec_PackSprites.B20 : List Nat := [0, 0, 0, 0, 12, 28, 0, 64, 252, 511, 1023]
theorem spec_PackSprites.tab20 : rtab .any (opsOf Try.f35 20) = spec_PackSprites.T20 := by kernel_rfl
theorem spec_PackSprites.bits20 : waitsOk spec_PackSprites.T20.2 spec_PackSprites.B20 = true := by kernel_rfl
set_option maxHeartbeats 8000000 in
set_option maxRecDepth 100000 in
theorem spec_PackSprites.calls (k : Nat) (A0 : Option Addr) (c0 : Nat) (l0 : List (S42)) (a1 : Int) (r1 : List (S50)) (r2 : Int) (w : World) (hr0 : Kd.C k42 w A0 l0.length l0) (hc0 : l0.length ≤ c0) (h : spec_PackSprites.f k l0 a1 = some (r1, r2)) :
    Calls Try.prog 35 #[.slice A0 l0.length c0, .int .i64 a1] w fun e w' => ∃ v0_ : Value, e = .returned (.tuple #[v0_, .int .i64 r2]) ∧ Kd.R k50 50 w' w.heap.size (fun _ => True) v0_ r1 ∧ Below w.heap.size w w' := by
  have hu42 := Try.underlying42
  have hu50 := Try.underlying50
  have HR0 := Aside0.mk hr0
  have HC0 := Aside0.mk hc0
  clear hr0 hc0
  have HB := Aside0.mk (Below.refl w.heap.size w)
  have H : ((spec_validSprites.f k l0 a1).bind fun t36001 => (if t36001 = true then (if 0 ≤ (l0.length : Int) then (if ((l0.length : Int) : Int).toNat ≤ 8796093022208 then ((spec_tallFirst.f k l0).bind fun t36011 => (spec_PackSprites.l0 k l0 a1 (List.replicate ((l0.length : Int) : Int).toNat z50) (([] : List Int)) (([] : List Int)) 0 t36011 0)) else (none)) else (none)) else (some (([] : List (S50)), (-1))))) = some (r1, r2) := h
  clear h
  replace H := Option.bind_eq_some_iff.mp H
  obtain ⟨t36001, A30, H⟩ := H
  replace H : (if t36001 = true then (if 0 ≤ (l0.length : Int) then (if ((l0.length : Int) : Int).toNat ≤ 8796093022208 then ((spec_tallFirst.f k l0).bind fun t36011 => (spec_PackSprites.l0 k l0 a1 (List.replicate ((l0.length : Int) : Int).toNat z50) (([] : List Int)) (([] : List Int)) 0 t36011 0)) else (none)) else (none)) else (some (([] : List (S50)), (-1)))) = some (r1, r2) := H
  have A3 := Aside0.mk A30
  clear A30
  by_cases c4 : t36001 = true
  · subst c4
    have H1 : (if 0 ≤ (l0.length : Int) then (if ((l0.length : Int) : Int).toNat ≤ 8796093022208 then ((spec_tallFirst.f k l0).bind fun t36011 => (spec_PackSprites.l0 k l0 a1 (List.replicate ((l0.length : Int) : Int).toNat z50) (([] : List Int)) (([] : List Int)) 0 t36011 0)) else (none)) else (none)) = some (r1, r2) := by rw [if_pos rfl] at H; exact H
    clear H
    have H := H1
    clear H1
    by_cases c5 : 0 ≤ (l0.length : Int)
    · rw [if_pos c5] at H
      have c5b0 := eq_true c5
      have c5b1 : decide (0 ≤ (l0.length : Int)) = true := decide_eq_true c5
      clear c5
      by_cases c6 : ((l0.length : Int) : Int).toNat ≤ 8796093022208
      · rw [if_pos c6] at H
        have c6b0 := eq_true c6
        have c6b1 : decide (((l0.length : Int) : Int).toNat ≤ 8796093022208) = true := decide_eq_true c6
        clear c6
        obtain ⟨y36002, hy36002⟩ : ∃ y_ : List (S50), y_ = (List.replicate ((l0.length : Int) : Int).toNat z50) := ⟨_, rfl⟩
        replace H : ((spec_tallFirst.f k l0).bind fun t36011 => (spec_PackSprites.l0 k l0 a1 y36002 (([] : List Int)) (([] : List Int)) 0 t36011 0)) = some (r1, r2) := by first | (rw [hy36002]; with_reducible exact H) | (have H2_ := (Option.bind_some _ _).symm.trans H; rw [hy36002]; with_reducible exact H2_) | (have H2_ := (Option.bind_some _ _).symm.trans H; with_reducible exact H2_) | with_reducible exact H | (rw [hy36002]; exact H) | exact H
        have Ny36002 := Aside0.mk hy36002
        clear hy36002
        obtain ⟨y36005, hy36005⟩ : ∃ y_ : List Int, y_ = (([] : List Int)) := ⟨_, rfl⟩
        replace H : ((spec_tallFirst.f k l0).bind fun t36011 => (spec_PackSprites.l0 k l0 a1 y36002 y36005 (([] : List Int)) 0 t36011 0)) = some (r1, r2) := by first | (rw [hy36005]; with_reducible exact H) | (have H2_ := (Option.bind_some _ _).symm.trans H; rw [hy36005]; with_reducible exact H2_) | (have H2_ := (Option.bind_some _ _).symm.trans H; with_reducible exact H2_) | with_reducible exact H | (rw [hy36005]; exact H) | exact H
        have Ny36005 := Aside0.mk hy36005
        clear hy36005
        obtain ⟨y36008, hy36008⟩ : ∃ y_ : List Int, y_ = (([] : List Int)) := ⟨_, rfl⟩
        replace H : ((spec_tallFirst.f k l0).bind fun t36011 => (spec_PackSprites.l0 k l0 a1 y36002 y36005 y36008 0 t36011 0)) = some (r1, r2) := by first | (rw [hy36008]; with_reducible exact H) | (have H2_ := (Option.bind_some _ _).symm.trans H; rw [hy36008]; with_reducible exact H2_) | (have H2_ := (Option.bind_some _ _).symm.trans H; with_reducible exact H2_) | with_reducible exact H | (rw [hy36008]; exact H) | exact H
        have Ny36008 := Aside0.mk hy36008
        clear hy36008
        replace H := Option.bind_eq_some_iff.mp H
        obtain ⟨t36011, A70, H⟩ := H
        replace H : (spec_PackSprites.l0 k l0 a1 y36002 y36005 y36008 0 t36011 0) = some (r1, r2) := H
        have A7 := Aside0.mk A70
        clear A70
        have H' := Aside0.mk H
        clear H
        go_enter Try.func35, Try.ntmps35
        go_wp2_with (first | ((with_reducible refine gate_callee (f := 55) rfl ?_); refine goesL_ (some 16) rfl rfl Try.func55 (by kernel_rfl) rfl #[.slice A0 l0.length c0, .int .i64 a1] rfl (by (try simp only [List.map_toArray, List.map_cons, List.map_nil]); first | done | rfl | (simp only [List.length_drop, List.length_take]; rfl)) ?_; (with_reducible refine (spec_validSprites.calls k _ _ l0 a1 true _ ?side1 ?side2 A3.out).mono ?_); (case side1 => repeat (first | exact HR0.out | (with_reducible refine Kd.C_alloc ?_ _) | (with_reducible refine Kd.C_drewN ?_ _) | (with_reducible refine Kd.C_drew ?_))); (case side2 => exact HC0.out); rintro e w' ⟨rfl, ⟨nd, rfl⟩⟩; refine ⟨_, rfl, ?_⟩) | ((with_reducible refine gate_dst (N := 20) rfl ?_); refine Kd.R_make k50 _ 50 rfl (N := 20) rfl 27 _ _ rfl (l0.length : Int) rfl rfl Try.underlying27 (.agg #[(.int .i64 0), (.int .i64 0), (.int .i64 0), (.int .i64 0)]) 32 info50 rfl (by decide) (by omega) z50 (ok := fun _ => True) (okp := fun _ => True) (k50_mkM _ _ _ z50 ) (fun _ hk => hk) trivial (of_decide_eq_true (by first | (with_reducible assumption) | assumption)) (Nat.le_trans (Nat.mul_le_mul_right _ (of_decide_eq_true (by first | (with_reducible assumption) | assumption) : (l0.length : Int).toNat ≤ 8796093022208)) (by omega)) (Below.refl _ _) (Nat.le_refl _) ?_; intro v36003 w8 ho9 hb hg_ hnew_; clear hg_ hnew_; (first | rw [← Ny36002.out] at ho9 | (simp only [Int.reduceToNat] at ho9; rw [← Ny36002.out] at ho9)); have n0_ := Aside0.mk (Kd.R_lower ho9 (below_size (by repeat (first | (with_reducible first | exact HB.out | apply below_alloc | apply pw_below_drewN | apply below_drew1) | exact HB.out)))); have n1_ := Aside0.mk (below_step (by repeat (first | (with_reducible first | exact HB.out | apply below_alloc | apply pw_below_drewN | apply below_drew1) | exact HB.out)) hb); clear HB; have HO36004 := n0_; have HB := n1_; clear n0_ n1_; clear hb ho9) | ((with_reducible refine gate_dst (N := 21) rfl ?_); refine Kd.R_lit (Kd.int .i64) _ 3 ?hg (N := 21) ?hd (xs := ([] : List Int)) (inner := []) (ok := fun _ => True) (okp := fun _ => True) ?hr ?hp (fun _ hk => hk) trivial (Below.refl _ _) (Nat.le_refl _) (by simp) ?_; (case hd => rfl); (case hg => rfl); (case hr => first | (go_simp; done) | (go_simp; rfl)); (case hp => exact (Reps.none _ _)); intro v36006 w10 ho11 hb hg_ hnew_; clear hg_ hnew_; (first | rw [← Ny36005.out] at ho11 | (simp only [Int.reduceToNat] at ho11; rw [← Ny36005.out] at ho11)); have n0_ := Aside0.mk (Kd.R_below (by (with_reducible repeat (first | apply Kd.R_alloc | apply Kd.R_drewN | apply Kd.R_drew)); exact HO36004.out) hb); have n1_ := Aside0.mk (Kd.R_lower ho11 (below_size (by repeat (first | (with_reducible first | exact HB.out | apply below_alloc | apply pw_below_drewN | apply below_drew1) | exact HB.out)))); have n2_ := Aside0.mk (below_step (by repeat (first | (with_reducible first | exact HB.out | apply below_alloc | apply pw_below_drewN | apply below_drew1) | exact HB.out)) hb); clear HO36004; clear HB; have HO36004 := n0_; have HO36007 := n1_; have HB := n2_; clear n0_ n1_ n2_; clear hb ho11) | ((with_reducible refine gate_dst (N := 22) rfl ?_); refine Kd.R_lit (Kd.int .i64) _ 3 ?hg (N := 22) ?hd (xs := ([] : List Int)) (inner := []) (ok := fun _ => True) (okp := fun _ => True) ?hr ?hp (fun _ hk => hk) trivial (Below.refl _ _) (Nat.le_refl _) (by simp) ?_; (case hd => rfl); (case hg => rfl); (case hr => first | (go_simp; done) | (go_simp; rfl)); (case hp => exact (Reps.none _ _)); intro v36009 w12 ho13 hb hg_ hnew_; clear hg_ hnew_; (first | rw [← Ny36008.out] at ho13 | (simp only [Int.reduceToNat] at ho13; rw [← Ny36008.out] at ho13)); have n0_ := Aside0.mk (Kd.R_below (by (with_reducible repeat (first | apply Kd.R_alloc | apply Kd.R_drewN | apply Kd.R_drew)); exact HO36004.out) hb); have n1_ := Aside0.mk (Kd.R_elder' (by (with_reducible repeat (first | apply Kd.R_alloc | apply Kd.R_drewN | apply Kd.R_drew)); exact HO36007.out) (Kd.R_base ho13) hb); have n2_ := Aside0.mk (Kd.R_lower (Kd.R_new' ho13 (Kd.R_lt (by (with_reducible repeat (first | apply Kd.R_alloc | apply Kd.R_drewN | apply Kd.R_drew)); exact HO36007.out))) (below_size (by repeat (first | (with_reducible first | exact HB.out | apply below_alloc | apply pw_below_drewN | apply below_drew1) | exact HB.out)))); have n3_ := Aside0.mk (below_step (by repeat (first | (with_reducible first | exact HB.out | apply below_alloc | apply pw_below_drewN | apply below_drew1) | exact HB.out)) hb); clear HO36004; clear HO36007; clear HB; have HO36004 := n0_; have HO36007 := n1_; have HO36010 := n2_; have HB := n3_; clear n0_ n1_ n2_ n3_; clear hb ho13) | ((with_reducible refine gate_callee (f := 69) rfl ?_); refine goesL_ (some 24) rfl rfl Try.func69 (by kernel_rfl) rfl #[.slice A0 l0.length c0] rfl (by (try simp only [List.map_toArray, List.map_cons, List.map_nil]); first | done | rfl | (simp only [List.length_drop, List.length_take]; rfl)) ?_; (with_reducible refine (spec_tallFirst.calls k _ _ l0 t36011 _ ?side1 ?side2 A7.out).mono ?_); (case side1 => repeat (first | exact (Kd.C_below HR0.out HB.out) | (with_reducible refine Kd.C_alloc ?_ _) | (with_reducible refine Kd.C_drewN ?_ _) | (with_reducible refine Kd.C_drew ?_))); (case side2 => exact HC0.out); rintro e w14 ⟨v36012, rfl, ho0, hb⟩; refine ⟨_, rfl, ?_⟩; have n0_ := Aside0.mk (Kd.R_below (by (with_reducible repeat (first | apply Kd.R_alloc | apply Kd.R_drewN | apply Kd.R_drew)); exact HO36004.out) hb); have n1_ := Aside0.mk (Kd.R_elder' (by (with_reducible repeat (first | apply Kd.R_alloc | apply Kd.R_drewN | apply Kd.R_drew)); exact HO36007.out) (Kd.R_base ho0) hb); have n2_ := Aside0.mk (Kd.R_elder' (by (with_reducible repeat (first | apply Kd.R_alloc | apply Kd.R_drewN | apply Kd.R_drew)); exact HO36010.out) (Kd.R_base ho0) hb); have n3_ := Aside0.mk (Kd.R_lower (Kd.R_new' (Kd.R_new' ho0 (Kd.R_lt (by (with_reducible repeat (first | apply Kd.R_alloc | apply Kd.R_drewN | apply Kd.R_drew)); exact HO36007.out))) (Kd.R_lt (by (with_reducible repeat (first | apply Kd.R_alloc | apply Kd.R_drewN | apply Kd.R_drew)); exact HO36010.out))) (below_size (by repeat (first | (with_reducible first | exact HB.out | apply below_alloc | apply pw_below_drewN | apply below_drew1) | exact HB.out)))); have n4_ := Aside0.mk (below_step (by repeat (first | (with_reducible first | exact HB.out | apply below_alloc | apply pw_below_drewN | apply below_drew1) | exact HB.out)) hb); clear HO36004; clear HO36007; clear HO36010; clear HB; have HO36004 := n0_; have HO36007 := n1_; have HO36010 := n2_; have HO36013 := n3_; have HB := n4_; clear n0_ n1_ n2_ n3_ n4_; (try clear hb); (try clear hb2); (try clear hk); (try clear hi); (try clear ho0)))
        go_loopg [7, 8, 9, 11] k (fun kq v7 v8 v9 v11 w' => ∃ (x6_1 : List (S50)) (x7_1 : List Int) (x8_1 : List Int) (x9_1 : Int) (x10_1 : List Int) (x11_1 : Int), v9 = .int .i64 x9_1 ∧ v11 = .int .i64 x11_1 ∧ Aside0 (spec_PackSprites.l0 kq l0 a1 x6_1 x7_1 x8_1 x9_1 x10_1 x11_1 = some (r1, r2)) ∧ Aside0 (kq ≤ k) ∧ Aside0 (Kd.R k50 50 w' w.heap.size (fun _ => True) v36003 x6_1) ∧ Aside0 (Kd.R (Kd.int .i64) 3 w' w.heap.size (fun k_ => some k_ ≠ (v8 : Value).ownBlock ∧ some k_ ≠ (v36012 : Value).ownBlock) v7 x7_1) ∧ Aside0 (Kd.R (Kd.int .i64) 3 w' w.heap.size (fun k_ => some k_ ≠ (v7 : Value).ownBlock ∧ some k_ ≠ (v36012 : Value).ownBlock) v8 x8_1) ∧ Aside0 (Kd.R (Kd.int .i64) 3 w' w.heap.size (fun k_ => some k_ ≠ (v7 : Value).ownBlock ∧ some k_ ≠ (v8 : Value).ownBlock) v36012 x10_1) ∧ Aside0 (Below w.heap.size w w'))
        case atStart => exact ⟨(y36002), (y36005), (y36008), (0), (t36011), (0), (by first | rfl | (simp; done) | (simp [*]; done)), (by first | rfl | (simp; done) | (simp [*]; done)), H', ⟨Nat.le_refl _⟩, ⟨by (with_reducible repeat (first | apply Kd.R_alloc | apply Kd.R_drewN | apply Kd.R_drew)); exact HO36004.out⟩, ⟨by (with_reducible repeat (first | apply Kd.R_alloc | apply Kd.R_drewN | apply Kd.R_drew)); exact Kd.R_mono HO36007.out (fun _ hk => ⟨hk.1.2, hk.2⟩)⟩, ⟨by (with_reducible repeat (first | apply Kd.R_alloc | apply Kd.R_drewN | apply Kd.R_drew)); exact Kd.R_mono HO36010.out (fun _ hk => ⟨hk.1.2, hk.2⟩)⟩, ⟨by (with_reducible repeat (first | apply Kd.R_alloc | apply Kd.R_drewN | apply Kd.R_drew)); exact Kd.R_mono HO36013.out (fun _ hk => ⟨hk.1.2, hk.2⟩)⟩, ⟨by repeat (first | (with_reducible first | exact HB.out | apply below_alloc | apply pw_below_drewN | apply below_drew1) | exact HB.out)⟩⟩
        case round =>
          clear H'
          try clear p2
          try clear c3
          try clear c4
          try clear c5
          try clear c5b0
          try clear c5b1
          try clear c6
          try clear c6b0
          try clear c6b1
          obtain ⟨x6_1, x7_1, x8_1, x9_1, x10_1, x11_1, rfl, rfl, HA, HK1, HO_6, HO_7, HO_8, HO_10, HB⟩ := hrel
          cases gk with
          | zero => exact absurd HA.out (by simp [spec_PackSprites.l0])
          | succ k1 =>
            have H := HA.out
            clear HA
            simp only [spec_PackSprites.l0] at H
            by_cases c15 : x11_1 < (x10_1.length : Int)
            · rw [if_pos c15] at H
              have c15b0 : decide (x11_1 < (x10_1.length : Int)) = true := decide_eq_true c15
              clear c15
              by_cases c16 : 0 ≤ x11_1
              · rw [if_pos c16] at H
                have c16b0 : decide (0 ≤ x11_1) = true := decide_eq_true c16
                clear c16
                by_cases c17 : 0 ≤ (rd x10_1 x11_1)
                · rw [if_pos c17] at H
                  have c17b0 : decide (0 ≤ (rd x10_1 x11_1)) = true := decide_eq_true c17
                  clear c17
                  by_cases c18 : (rd x10_1 x11_1) < (l0.length : Int)
                  · rw [if_pos c18] at H
                    have c18b0 : decide ((rd x10_1 x11_1) < (l0.length : Int)) = true := decide_eq_true c18
                    clear c18
                    have H' := Aside0.mk H
                    clear H
                    obtain ⟨Ao19, co19, eo19⟩ := Kd.R_slice HO_10.out
                    subst eo19
                    have p36014 : 0 ≤ (x11_1 : Int) := of_decide_eq_true (by first | (with_reducible assumption) | assumption)
                    have q36014 : x11_1 < (x10_1.length : Int) := of_decide_eq_true (by first | (with_reducible assumption) | assumption)
                    obtain ⟨ad36014, e36014, hx36014_0⟩ := Kd.at_int (Kd.R_reads' HO_10.out).2.2 x11_1 p36014 q36014
                    cases e36014
                    replace p36014 := eq_true p36014
                    replace q36014 := eq_true q36014
                    have p36015 : 0 ≤ ((rd x10_1 x11_1) : Int) := of_decide_eq_true (by first | (with_reducible assumption) | assumption)
                    have q36015 : (rd x10_1 x11_1) < (l0.length : Int) := of_decide_eq_true (by first | (with_reducible assumption) | assumption)
                    obtain ⟨ad36015, e36015, hx36015_0, hx36015_1⟩ := at_T42 HR0.out (rd x10_1 x11_1) p36015 q36015
                    cases e36015
                    replace hx36015_0 := (HB.out.cell (World.block_lt_of_cell? w _ hx36015_0)).trans hx36015_0
                    replace hx36015_1 := (HB.out.cell (World.block_lt_of_cell? w _ hx36015_1)).trans hx36015_1
                    replace p36015 := eq_true p36015
                    replace q36015 := eq_true q36015
                    go_wp2_with (first | ((with_reducible refine gate_dst (N := 12) rfl ?_); refine box_event ?hg (N := 12) ?hd (cs := #[.int .i64 0, .int .i64 0]) (t := 42) ?hr ?_; (case hd => rfl); (case hg => rfl); (case hr => first | (go_simp; done) | (go_simp; rfl)); intro gb36016 hg w20 hbox hb; have n0_ := Aside0.mk (Kd.R_below (by (with_reducible repeat (first | apply Kd.R_alloc | apply Kd.R_drewN | apply Kd.R_drew)); exact HO_6.out) hb); have n1_ := Aside0.mk (Kd.R_below (by (with_reducible repeat (first | apply Kd.R_alloc | apply Kd.R_drewN | apply Kd.R_drew)); exact HO_7.out) hb); have n2_ := Aside0.mk (Kd.R_below (by (with_reducible repeat (first | apply Kd.R_alloc | apply Kd.R_drewN | apply Kd.R_drew)); exact HO_8.out) hb); have n3_ := Aside0.mk (Kd.R_below (by (with_reducible repeat (first | apply Kd.R_alloc | apply Kd.R_drewN | apply Kd.R_drew)); exact HO_10.out) hb); have n4_ := Aside0.mk (below_step (by repeat (first | (with_reducible first | exact HB.out | apply below_alloc | apply pw_below_drewN | apply below_drew1) | exact HB.out)) hb); have n5_ := Aside0.mk (hbox); have n6_ := Aside0.mk ((by rw [hg]; exact (below_size (by repeat (first | (with_reducible first | exact HB.out | apply below_alloc | apply pw_below_drewN | apply below_drew1) | exact HB.out))) : w.heap.size ≤ gb36016)); have n7_ := Aside0.mk ((by rw [hg]; exact (below_size (by repeat (first | (with_reducible first | exact HB.out | apply below_alloc | apply pw_below_drewN | apply below_drew1) | exact HB.out))) : w.heap.size ≤ gb36016)); clear HO_6; clear HO_7; clear HO_8; clear HO_10; clear HB; have HO_6 := n0_; have HO_7 := n1_; have HO_8 := n2_; have HO_10 := n3_; have HB := n4_; have BK36016 := n5_; have GW36016 := n6_; have GE36016 := n7_; clear n0_ n1_ n2_ n3_ n4_ n5_ n6_ n7_; clear hb hbox hg; have hcz21_0 : w20.cell? ⟨gb36016, 0, none⟩ = some (.int .i64 0) := (blk_cell BK36016.out 0).trans rfl; have hcz21_1 : w20.cell? ⟨gb36016, 1, none⟩ = some (.int .i64 0) := (blk_cell BK36016.out 1).trans rfl; have hfz21_0 := blk_frozen BK36016.out 0; have hfz21_1 := blk_frozen BK36016.out 1))
                    go_loopg [13] k1 (fun kq v13 w' => ∃ (x13_2 : Int), v13 = .int .i64 x13_2 ∧ Aside0 (spec_PackSprites.l1 kq l0 a1 x6_1 x7_1 x8_1 x9_1 x10_1 x11_1 x13_2 ((rd_T42 l0 (rd x10_1 x11_1)).f0) ((rd_T42 l0 (rd x10_1 x11_1)).f1) = some (r1, r2)) ∧ Aside0 (kq ≤ k1) ∧ Aside0 (Kd.R k50 50 w' w.heap.size (fun _ => True) v36003 x6_1) ∧ Aside0 (Kd.R (Kd.int .i64) 3 w' w.heap.size (fun k_ => some k_ ≠ (u8 : Value).ownBlock ∧ some k_ ≠ ((.slice (some ad36014) x10_1.length co19) : Value).ownBlock) u7 x7_1) ∧ Aside0 (Kd.R (Kd.int .i64) 3 w' w.heap.size (fun k_ => some k_ ≠ (u7 : Value).ownBlock ∧ some k_ ≠ ((.slice (some ad36014) x10_1.length co19) : Value).ownBlock) u8 x8_1) ∧ Aside0 (Kd.R (Kd.int .i64) 3 w' w.heap.size (fun k_ => some k_ ≠ (u7 : Value).ownBlock ∧ some k_ ≠ (u8 : Value).ownBlock) (.slice (some ad36014) x10_1.length co19) x10_1) ∧ Aside0 (w'.heap[gb36016]? = some (.cells #[.int .i64 ((rd_T42 l0 (rd x10_1 x11_1)).f0), .int .i64 ((rd_T42 l0 (rd x10_1 x11_1)).f1)] 42 (0, 0))) ∧ Aside0 (Below w.heap.size w w'))
                    case atStart => exact ⟨(0), (by first | rfl | (simp; done) | (simp [*]; done)), H', ⟨Nat.le_refl _⟩, ⟨by (with_reducible repeat (first | apply Kd.R_alloc | apply Kd.R_drewN | apply Kd.R_drew)); exact Kd.R_mono (Kd.R_far (p := ⟨gb36016, 1, none⟩) (Kd.R_far (p := ⟨gb36016, 0, none⟩) (Kd.R_types HO_6.out BK36016.out (by decide)) (fun _ hk => hk.2) (.int .i64 ((rd_T42 l0 (rd x10_1 x11_1)).f0))) (fun _ hk => hk.2) (.int .i64 ((rd_T42 l0 (rd x10_1 x11_1)).f1))) (fun _ hk => trivial)⟩, ⟨by (with_reducible repeat (first | apply Kd.R_alloc | apply Kd.R_drewN | apply Kd.R_drew)); exact Kd.R_mono (Kd.R_far (p := ⟨gb36016, 1, none⟩) (Kd.R_far (p := ⟨gb36016, 0, none⟩) (Kd.R_types HO_7.out BK36016.out (by decide)) (fun _ hk => hk.2) (.int .i64 ((rd_T42 l0 (rd x10_1 x11_1)).f0))) (fun _ hk => hk.2) (.int .i64 ((rd_T42 l0 (rd x10_1 x11_1)).f1))) (fun _ hk => ⟨hk.1.1, hk.1.2⟩)⟩, ⟨by (with_reducible repeat (first | apply Kd.R_alloc | apply Kd.R_drewN | apply Kd.R_drew)); exact Kd.R_mono (Kd.R_far (p := ⟨gb36016, 1, none⟩) (Kd.R_far (p := ⟨gb36016, 0, none⟩) (Kd.R_types HO_8.out BK36016.out (by decide)) (fun _ hk => hk.2) (.int .i64 ((rd_T42 l0 (rd x10_1 x11_1)).f0))) (fun _ hk => hk.2) (.int .i64 ((rd_T42 l0 (rd x10_1 x11_1)).f1))) (fun _ hk => ⟨hk.1.1, hk.1.2⟩)⟩, ⟨by (with_reducible repeat (first | apply Kd.R_alloc | apply Kd.R_drewN | apply Kd.R_drew)); exact Kd.R_mono (Kd.R_far (p := ⟨gb36016, 1, none⟩) (Kd.R_far (p := ⟨gb36016, 0, none⟩) (Kd.R_types HO_10.out BK36016.out (by decide)) (fun _ hk => hk.2) (.int .i64 ((rd_T42 l0 (rd x10_1 x11_1)).f0))) (fun _ hk => hk.2) (.int .i64 ((rd_T42 l0 (rd x10_1 x11_1)).f1))) (fun _ hk => ⟨hk.1.1, hk.1.2⟩)⟩, ⟨by (with_reducible repeat (first | refine blk_drewN ?_ _ | refine blk_drew ?_ | refine blk_alloc ?_ _)); refine blk_put (cs := #[.int .i64 ((rd_T42 l0 (rd x10_1 x11_1)).f0), .int .i64 0]) ?_ 1 _ rfl; (with_reducible repeat (first | refine blk_drewN ?_ _ | refine blk_drew ?_ | refine blk_alloc ?_ _)); refine blk_put (cs := #[.int .i64 0, .int .i64 0]) ?_ 0 _ rfl; (with_reducible repeat (first | refine blk_drewN ?_ _ | refine blk_drew ?_ | refine blk_alloc ?_ _)); exact BK36016.out⟩, ⟨by repeat (first | (with_reducible first | exact HB.out | apply below_alloc | apply pw_below_drewN | apply below_drew1 | refine below_set ?_ GE36016.out) | exact HB.out)⟩⟩
                    case round =>
                      clear H'
                      try clear c1
                      try clear p2
                      try clear c3
                      try clear p3
                      try clear q3
                      try clear hx3
                      try clear c4
                      try clear c5
                      try clear c5b0
                      try clear c5b1
                      try clear c6
                      try clear c6b0
                      try clear c6b1
                      try clear c15
                      try clear c15b0
                      try clear c16
                      try clear c16b0
                      try clear c17
                      try clear c17b0
                      try clear c18
                      try clear c18b0
                      try clear hcz21_0
                      try clear hcz21_1
                      try clear hfz21_0
                      try clear hfz21_1
                      try clear hx36014_0
                      try clear hx36015_0
                      try clear hx36015_1
                      try clear p2
                      try clear p36014
                      try clear p36015
                      try clear q36014
                      try clear q36015
                      obtain ⟨x13_2, rfl, HA, HK2, HO_6, HO_7, HO_8, HO_10, BK36016, HB⟩ := hrel
                      cases gk with
                      | zero => exact absurd HA.out (by simp [spec_PackSprites.l1])
                      | succ k2 =>
                        have H := HA.out
                        clear HA
                        simp only [spec_PackSprites.l1] at H
                        by_cases c22 : x13_2 < (x8_1.length : Int)
                        · rw [if_pos c22] at H
                          have c22b0 : decide (x13_2 < (x8_1.length : Int)) = true := decide_eq_true c22
                          clear c22
                          by_cases c23 : 0 ≤ x13_2
                          · rw [if_pos c23] at H
                            have c23b0 : decide (0 ≤ x13_2) = true := decide_eq_true c23
                            clear c23
                            by_cases c24 : (wrap64 ((rd x8_1 x13_2) + ((rd_T42 l0 (rd x10_1 x11_1)).f0))) > a1
                            · rw [if_pos c24] at H
                              have c24b0 : decide (a1 < (wrap64 ((rd x8_1 x13_2) + ((rd_T42 l0 (rd x10_1 x11_1)).f0)))) = true := decide_eq_true c24
                              clear c24
                              have H' := Aside0.mk H
                              clear H
                              try go_wp2
                              have n0_ := Aside0.mk (Kd.R_drew HO_6.out)
                              have n1_ := Aside0.mk (Kd.R_drew HO_7.out)
                              have n2_ := Aside0.mk (Kd.R_drew HO_8.out)
                              have n3_ := Aside0.mk (Kd.R_drew HO_10.out)
                              have n4_ := Aside0.mk (blk_drew BK36016.out)
                              have n5_ := Aside0.mk (below_drew1 HB.out)
                              clear HO_6
                              clear HO_7
                              clear HO_8
                              clear HO_10
                              clear BK36016
                              clear HB
                              have HO_6 := n0_
                              have HO_7 := n1_
                              have HO_8 := n2_
                              have HO_10 := n3_
                              have BK36016 := n4_
                              have HB := n5_
                              clear n0_ n1_ n2_ n3_ n4_ n5_
                              obtain ⟨Ao26, co26, eo26⟩ := Kd.R_slice HO_8.out
                              (first | subst eo26 | (injection eo26 with f1_ f2_ f3_; have f4_ := f1_.symm; have f5_ := f3_.symm; clear f1_ f2_ f3_; subst f4_; subst f5_))
                              have p36017 : 0 ≤ (x13_2 : Int) := of_decide_eq_true (by first | (with_reducible assumption) | assumption)
                              have q36017 : x13_2 < (x8_1.length : Int) := of_decide_eq_true (by first | (with_reducible assumption) | assumption)
                              obtain ⟨ad36017, e36017, hx36017_0⟩ := Kd.at_int (Kd.R_reads' HO_8.out).2.2 x13_2 p36017 q36017
                              cases e36017
                              replace p36017 := eq_true p36017
                              replace q36017 := eq_true q36017
                              refine start_ (n := 15) (S := fun w' => w'.cell? ⟨gb36016, 0, none⟩ = some (.int .i64 ((rd_T42 l0 (rd x10_1 x11_1)).f0)) ∧ w'.cell? ⟨gb36016, 1, none⟩ = some (.int .i64 ((rd_T42 l0 (rd x10_1 x11_1)).f1)) ∧ w'.cell? (ad36017.add (x13_2).toNat) = some (.int .i64 (rd x8_1 x13_2))) (ds := []) #[false, false, false, false, false, false, false, false, false, false, false, false, false, false, false] (by kernel_rfl) rfl rfl ⟨(blk_cell BK36016.out 0).trans rfl, (blk_cell BK36016.out 1).trans rfl, hx36017_0⟩ (fun hHeld => ?_); refine with_tabW spec_PackSprites.tab13 spec_PackSprites.bits13 (fun HT_ HW_ => ?_)
                              generalize wr.drew = w25 at HO_6 HO_7 HO_8 HO_10 BK36016 HB hx36017_0 hHeld ⊢
                              refine pure_ (i := 0) (N := some 38) (v := ?_) (a' := ?_) #[true, false, false, false, false, false, false, false, false, false, false, false, false, false, false] rfl rfl (any_of HT_.out (by kernel_rfl)) (fun _ _ _ h => h) (Or.inl ⟨by rfl, ?_⟩) ?_ ?_
                              rotate_left
                              · intro w'
                                go_simp
                                with_reducible rfl
                              rotate_left
                              · simp only [Act.put, List.setIfInBounds_toArray, List.set_cons_zero, List.set_cons_succ, i64_w, i32_w]
                                rfl
                              refine pure_ (i := 1) (N := some 39) (v := ?_) (a' := ?_) #[true, true, false, false, false, false, false, false, false, false, false, false, false, false, false] rfl rfl (any_of HT_.out (by kernel_rfl)) (fun _ _ _ h => h) (Or.inl ⟨by rfl, ?_⟩) ?_ ?_
                              rotate_left
                              · intro w'
                                go_simp
                                with_reducible rfl
                              rotate_left
                              · simp only [Act.put, List.setIfInBounds_toArray, List.set_cons_zero, List.set_cons_succ, i64_w, i32_w]
                                rfl
                              refine pure_ (i := 2) (N := some 40) (v := ?_) (a' := ?_) #[true, true, true, false, false, false, false, false, false, false, false, false, false, false, false] rfl rfl (any_of HT_.out (by kernel_rfl)) (fun _ _ _ h => h) (Or.inl ⟨by rfl, ?_⟩) ?_ ?_
                              rotate_left
                              · intro w'
                                go_simp
                                with_reducible rfl
                              rotate_left
                              · simp only [Act.put, List.setIfInBounds_toArray, List.set_cons_zero, List.set_cons_succ, i64_w, i32_w]
                                rfl
                              refine pure_ (i := 3) (N := some 41) (v := ?_) (a' := ?_) #[true, true, true, true, false, false, false, false, false, false, false, false, false, false, false] rfl rfl (any_of HT_.out (by kernel_rfl)) (fun _ _ _ h => h) (Or.inl ⟨by rfl, ?_⟩) ?_ ?_
                              rotate_left
                              · intro w'
                                go_simp
                                with_reducible rfl
                              rotate_left
                              · simp only [Act.put, List.setIfInBounds_toArray, List.set_cons_zero, List.set_cons_succ, i64_w, i32_w]
                                rfl
                              refine pure_ (i := 4) (N := some 42) (v := ?_) (a' := ?_) #[true, true, true, true, true, false, false, false, false, false, false, false, false, false, false] rfl rfl (any_of HT_.out (by kernel_rfl)) (fun _ _ _ h => h) (Or.inl ⟨by rfl, ?_⟩) ?_ ?_
                              rotate_left
                              · intro w'
                                go_simp
                                with_reducible rfl
                              rotate_left
                              · simp only [Act.put, List.setIfInBounds_toArray, List.set_cons_zero, List.set_cons_succ, i64_w, i32_w]
                                rfl
                              refine pure_ (i := 5) (N := some 43) (v := ?_) (a' := ?_) #[true, true, true, true, true, true, false, false, false, false, false, false, false, false, false] rfl rfl (any_of HT_.out (by kernel_rfl)) (fun _ _ _ h => h) (Or.inl ⟨by rfl, ?_⟩) ?_ ?_
                              rotate_left
                              · intro w'
                                go_simp
                                with_reducible rfl
                              rotate_left
                              · simp only [Act.put, List.setIfInBounds_toArray, List.set_cons_zero, List.set_cons_succ, i64_w, i32_w]
                                rfl
                              refine pure_ (i := 6) (N := some 44) (v := ?_) (a' := ?_) #[true, true, true, true, true, true, true, false, false, false, false, false, false, false, false] rfl rfl (any_of HT_.out (by kernel_rfl)) (fun _ _ _ h => h) (Or.inl ⟨by rfl, ?_⟩) ?_ ?_
                              rotate_left
                              · intro w'
                                go_simp
                                with_reducible rfl
                              rotate_left
                              · simp only [Act.put, List.setIfInBounds_toArray, List.set_cons_zero, List.set_cons_succ, i64_w, i32_w]
                                rfl
                              refine pure_ (i := 7) (N := some 45) (v := ?_) (a' := ?_) #[true, true, true, true, true, true, true, true, false, false, false, false, false, false, false] rfl rfl (any_of HT_.out (by kernel_rfl)) (fun _ _ _ h => h) (Or.inl ⟨by rfl, ?_⟩) ?_ ?_
                              rotate_left
                              · intro w'
                                go_simp
                                with_reducible rfl
                              rotate_left
                              · simp only [Act.put, List.setIfInBounds_toArray, List.set_cons_zero, List.set_cons_succ, i64_w, i32_w]
                                rfl
                              refine pure_ (i := 9) (N := some 47) (v := ?_) (a' := ?_) #[true, true, true, true, true, true, true, true, false, true, false, false, false, false, false] rfl rfl (any_of HT_.out (by kernel_rfl)) (fun _ _ _ h => h) (Or.inl ⟨by rfl, ?_⟩) ?_ ?_
                              rotate_left
                              · intro w'
                                go_simp
                                with_reducible rfl
                              rotate_left
                              · simp only [Act.put, List.setIfInBounds_toArray, List.set_cons_zero, List.set_cons_succ, i64_w, i32_w]
                                rfl
                              refine pure_ (i := 12) (N := some 50) (v := ?_) (a' := ?_) #[true, true, true, true, true, true, true, true, false, true, false, false, true, false, false] rfl rfl (any_of HT_.out (by kernel_rfl)) (fun _ _ _ h => h) (Or.inl ⟨by rfl, ?_⟩) ?_ ?_
                              rotate_left
                              · intro w'
                                go_simp
                                with_reducible rfl
                              rotate_left
                              · simp only [Act.put, List.setIfInBounds_toArray, List.set_cons_zero, List.set_cons_succ, i64_w, i32_w]
                                rfl
                              refine take_ (i := 8) (N := some 46) (v := ?_) (a' := ?_) #[true, true, true, true, true, true, true, true, true, true, false, false, true, false, false] rfl rfl (take_ofW HT_.out HW_.out (by kernel_rfl)) (fun _ _ _ h => h) (Or.inl ⟨by rfl, ?_⟩) hHeld ?_ ?_
                              rotate_left
                              · rintro w' ⟨s0, s1, s2⟩
                                go_simp
                                with_reducible rfl
                              rotate_left
                              · simp only [Act.put, List.setIfInBounds_toArray, List.set_cons_zero, List.set_cons_succ, i64_w, i32_w]
                                rfl
                              refine take_ (i := 10) (N := some 48) (v := ?_) (a' := ?_) #[true, true, true, true, true, true, true, true, true, true, true, false, true, false, false] rfl rfl (take_ofW HT_.out HW_.out (by kernel_rfl)) (fun _ _ _ h => h) (Or.inl ⟨by rfl, ?_⟩) hHeld ?_ ?_
                              rotate_left
                              · rintro w' ⟨s0, s1, s2⟩
                                go_simp
                                with_reducible rfl
                              rotate_left
                              · simp only [Act.put, List.setIfInBounds_toArray, List.set_cons_zero, List.set_cons_succ, i64_w, i32_w]
                                rfl
                              refine pure_ (i := 11) (N := some 49) (v := ?_) (a' := ?_) #[true, true, true, true, true, true, true, true, true, true, true, true, true, false, false] rfl rfl (any_of HT_.out (by kernel_rfl)) (fun _ _ _ h => h) (Or.inl ⟨by rfl, ?_⟩) ?_ ?_
                              rotate_left
                              · intro w'
                                go_simp
                                with_reducible rfl
                              rotate_left
                              · simp only [Act.put, List.setIfInBounds_toArray, List.set_cons_zero, List.set_cons_succ, i64_w, i32_w]
                                rfl
                              refine pure_ (i := 13) (N := some 51) (v := ?_) (a' := ?_) #[true, true, true, true, true, true, true, true, true, true, true, true, true, true, false] rfl rfl (any_of HT_.out (by kernel_rfl)) (fun _ _ _ h => h) (Or.inl ⟨by rfl, ?_⟩) ?_ ?_
                              rotate_left
                              · intro w'
                                go_simp
                                with_reducible rfl
                              rotate_left
                              · simp only [Act.put, List.setIfInBounds_toArray, List.set_cons_zero, List.set_cons_succ, i64_w, i32_w]
                                rfl
                              refine pure_ (i := 14) (N := some 52) (v := ?_) (a' := ?_) #[true, true, true, true, true, true, true, true, true, true, true, true, true, true, true] rfl rfl (any_of HT_.out (by kernel_rfl)) (fun _ _ _ h => h) (Or.inl ⟨by rfl, ?_⟩) ?_ ?_
                              rotate_left
                              · intro w'
                                go_simp
                                with_reducible rfl
                              rotate_left
                              · simp only [Act.put, List.setIfInBounds_toArray, List.set_cons_zero, List.set_cons_succ, i64_w, i32_w]
                                rfl
                              refine done_ (done_of HT_.out (by kernel_rfl)) ?_
                              try go_wp2
                              go_roundg k2
                              case measure => have := HK1.out; have := HK2.out; omega
                              case rel => exact ⟨(wrap64 (x13_2 + 1)), (by first | rfl | (simp; done) | (simp [*]; done)), H', ⟨by have := HK1.out; have := HK2.out; omega⟩, ⟨by (with_reducible repeat (first | apply Kd.R_alloc | apply Kd.R_drewN | apply Kd.R_drew)); exact HO_6.out⟩, ⟨by (with_reducible repeat (first | apply Kd.R_alloc | apply Kd.R_drewN | apply Kd.R_drew)); exact HO_7.out⟩, ⟨by (with_reducible repeat (first | apply Kd.R_alloc | apply Kd.R_drewN | apply Kd.R_drew)); exact HO_8.out⟩, ⟨by (with_reducible repeat (first | apply Kd.R_alloc | apply Kd.R_drewN | apply Kd.R_drew)); exact HO_10.out⟩, ⟨by (with_reducible repeat (first | refine blk_drewN ?_ _ | refine blk_drew ?_ | refine blk_alloc ?_ _)); exact BK36016.out⟩, ⟨by repeat (first | (with_reducible first | exact HB.out | apply below_alloc | apply pw_below_drewN | apply below_drew1 | refine below_set ?_ GE36016.out) | exact HB.out)⟩⟩
                            · rw [if_neg c24] at H
                              have c24b0 : decide (a1 < (wrap64 ((rd x8_1 x13_2) + ((rd_T42 l0 (rd x10_1 x11_1)).f0)))) = false := decide_eq_false c24
                              clear c24
                              by_cases c27 : x13_2 = (x8_1.length : Int)
                              · rw [if_pos c27] at H
                                have c27b0 : (x13_2 == (x8_1.length : Int)) = true := beq_iff_eq.mpr c27
                                have c27b1 : (x13_2 != (x8_1.length : Int)) = false := bne_eq_false_iff_eq.mpr c27
                                clear c27
                                by_cases c28 : x7_1.length < 17592186044416
                                · rw [if_pos c28] at H
                                  have LMc28 := Aside0.mk c28
                                  clear c28
                                  obtain ⟨y36018, hy36018⟩ : ∃ y_ : List Int, y_ = (x7_1 ++ [x9_1]) := ⟨_, rfl⟩
                                  replace H : (if x8_1.length < 17592186044416 then ((some (x8_1 ++ [0] : List Int)).bind fun y36021 => (if 0 ≤ x11_1 then (if x11_1 < (x10_1.length : Int) then (if x13_2 < (y36021.length : Int) then (if x13_2 < (y36018.length : Int) then (if 0 ≤ (rd x10_1 x11_1) then (if (rd x10_1 x11_1) < (x6_1.length : Int) then (spec_PackSprites.l0 k2 l0 a1 (x6_1.set ((rd x10_1 x11_1) : Int).toNat (⟨rd y36021 x13_2, rd y36018 x13_2, ((rd_T42 l0 (rd x10_1 x11_1)).f0), ((rd_T42 l0 (rd x10_1 x11_1)).f1)⟩ : S50)) y36018 (y36021.set (x13_2 : Int).toNat (wrap64 ((rd y36021 x13_2) + ((rd_T42 l0 (rd x10_1 x11_1)).f0)))) (wrap64 (x9_1 + ((rd_T42 l0 (rd x10_1 x11_1)).f1))) x10_1 (wrap64 (x11_1 + 1))) else (none)) else (none)) else (none)) else (none)) else (none)) else (none))) else (none)) = some (r1, r2) := by first | (rw [hy36018]; with_reducible exact H) | (have H2_ := (Option.bind_some _ _).symm.trans H; rw [hy36018]; with_reducible exact H2_) | (have H2_ := (Option.bind_some _ _).symm.trans H; with_reducible exact H2_) | with_reducible exact H | (rw [hy36018]; exact H) | exact H
                                  have Ny36018 := Aside0.mk hy36018
                                  clear hy36018
                                  by_cases c29 : x8_1.length < 17592186044416
                                  · rw [if_pos c29] at H
                                    have LMc29 := Aside0.mk c29
                                    clear c29
                                    obtain ⟨y36021, hy36021⟩ : ∃ y_ : List Int, y_ = (x8_1 ++ [0]) := ⟨_, rfl⟩
                                    replace H : (if 0 ≤ x11_1 then (if x11_1 < (x10_1.length : Int) then (if x13_2 < (y36021.length : Int) then (if x13_2 < (y36018.length : Int) then (if 0 ≤ (rd x10_1 x11_1) then (if (rd x10_1 x11_1) < (x6_1.length : Int) then (spec_PackSprites.l0 k2 l0 a1 (x6_1.set ((rd x10_1 x11_1) : Int).toNat (⟨rd y36021 x13_2, rd y36018 x13_2, ((rd_T42 l0 (rd x10_1 x11_1)).f0), ((rd_T42 l0 (rd x10_1 x11_1)).f1)⟩ : S50)) y36018 (y36021.set (x13_2 : Int).toNat (wrap64 ((rd y36021 x13_2) + ((rd_T42 l0 (rd x10_1 x11_1)).f0)))) (wrap64 (x9_1 + ((rd_T42 l0 (rd x10_1 x11_1)).f1))) x10_1 (wrap64 (x11_1 + 1))) else (none)) else (none)) else (none)) else (none)) else (none)) else (none)) = some (r1, r2) := by first | (rw [hy36021]; with_reducible exact H) | (have H2_ := (Option.bind_some _ _).symm.trans H; rw [hy36021]; with_reducible exact H2_) | (have H2_ := (Option.bind_some _ _).symm.trans H; with_reducible exact H2_) | with_reducible exact H | (rw [hy36021]; exact H) | exact H
                                    have Ny36021 := Aside0.mk hy36021
                                    clear hy36021
                                    by_cases c30 : 0 ≤ x11_1
                                    · rw [if_pos c30] at H
                                      have c30b0 : decide (0 ≤ x11_1) = true := decide_eq_true c30
                                      clear c30
                                      by_cases c31 : x11_1 < (x10_1.length : Int)
                                      · rw [if_pos c31] at H
                                        have c31b0 : decide (x11_1 < (x10_1.length : Int)) = true := decide_eq_true c31
                                        clear c31
                                        by_cases c32 : x13_2 < (y36021.length : Int)
                                        · rw [if_pos c32] at H
                                          have c32b0 : decide (x13_2 < (y36021.length : Int)) = true := decide_eq_true c32
                                          clear c32
                                          by_cases c33 : x13_2 < (y36018.length : Int)
                                          · rw [if_pos c33] at H
                                            have c33b0 : decide (x13_2 < (y36018.length : Int)) = true := decide_eq_true c33
                                            clear c33
                                            by_cases c34 : 0 ≤ (rd x10_1 x11_1)
                                            · rw [if_pos c34] at H
                                              have c34b0 : decide (0 ≤ (rd x10_1 x11_1)) = true := decide_eq_true c34
                                              clear c34
                                              by_cases c35 : (rd x10_1 x11_1) < (x6_1.length : Int)
                                              · rw [if_pos c35] at H
                                                have c35b0 : decide ((rd x10_1 x11_1) < (x6_1.length : Int)) = true := decide_eq_true c35
                                                clear c35
                                                obtain ⟨y36027, hy36027⟩ : ∃ y_ : List (S50), y_ = (x6_1.set ((rd x10_1 x11_1) : Int).toNat (⟨rd y36021 x13_2, rd y36018 x13_2, ((rd_T42 l0 (rd x10_1 x11_1)).f0), ((rd_T42 l0 (rd x10_1 x11_1)).f1)⟩ : S50)) := ⟨_, rfl⟩
                                                replace H : (spec_PackSprites.l0 k2 l0 a1 y36027 y36018 (y36021.set (x13_2 : Int).toNat (wrap64 ((rd y36021 x13_2) + ((rd_T42 l0 (rd x10_1 x11_1)).f0)))) (wrap64 (x9_1 + ((rd_T42 l0 (rd x10_1 x11_1)).f1))) x10_1 (wrap64 (x11_1 + 1))) = some (r1, r2) := by first | (rw [hy36027]; with_reducible exact H) | (have H2_ := (Option.bind_some _ _).symm.trans H; rw [hy36027]; with_reducible exact H2_) | (have H2_ := (Option.bind_some _ _).symm.trans H; with_reducible exact H2_) | with_reducible exact H | (rw [hy36027]; exact H) | exact H
                                                have Ny36027 := Aside0.mk hy36027
                                                clear hy36027
                                                obtain ⟨y36029, hy36029⟩ : ∃ y_ : List Int, y_ = (y36021.set (x13_2 : Int).toNat (wrap64 ((rd y36021 x13_2) + ((rd_T42 l0 (rd x10_1 x11_1)).f0)))) := ⟨_, rfl⟩
                                                replace H : (spec_PackSprites.l0 k2 l0 a1 y36027 y36018 y36029 (wrap64 (x9_1 + ((rd_T42 l0 (rd x10_1 x11_1)).f1))) x10_1 (wrap64 (x11_1 + 1))) = some (r1, r2) := by first | (rw [hy36029]; with_reducible exact H) | (have H2_ := (Option.bind_some _ _).symm.trans H; rw [hy36029]; with_reducible exact H2_) | (have H2_ := (Option.bind_some _ _).symm.trans H; with_reducible exact H2_) | with_reducible exact H | (rw [hy36029]; exact H) | exact H
                                                have Ny36029 := Aside0.mk hy36029
                                                clear hy36029
                                                have H' := Aside0.mk H
                                                clear H
                                                try go_wp2
                                                have n0_ := Aside0.mk (Kd.R_drew HO_6.out)
                                                have n1_ := Aside0.mk (Kd.R_drew HO_7.out)
                                                have n2_ := Aside0.mk (Kd.R_drew HO_8.out)
                                                have n3_ := Aside0.mk (Kd.R_drew HO_10.out)
                                                have n4_ := Aside0.mk (blk_drew BK36016.out)
                                                have n5_ := Aside0.mk (below_drew1 HB.out)
                                                clear HO_6
                                                clear HO_7
                                                clear HO_8
                                                clear HO_10
                                                clear BK36016
                                                clear HB
                                                have HO_6 := n0_
                                                have HO_7 := n1_
                                                have HO_8 := n2_
                                                have HO_10 := n3_
                                                have BK36016 := n4_
                                                have HB := n5_
                                                clear n0_ n1_ n2_ n3_ n4_ n5_
                                                obtain ⟨Ao39, co39, eo39⟩ := Kd.R_slice HO_8.out
                                                (first | subst eo39 | (injection eo39 with f1_ f2_ f3_; have f4_ := f1_.symm; have f5_ := f3_.symm; clear f1_ f2_ f3_; subst f4_; subst f5_))
                                                have p36017 : 0 ≤ (x13_2 : Int) := of_decide_eq_true (by first | (with_reducible assumption) | assumption)
                                                have q36017 : x13_2 < (x8_1.length : Int) := of_decide_eq_true (by first | (with_reducible assumption) | assumption)
                                                obtain ⟨ad36017, e36017, hx36017_0⟩ := Kd.at_int (Kd.R_reads' HO_8.out).2.2 x13_2 p36017 q36017
                                                cases e36017
                                                replace p36017 := eq_true p36017
                                                replace q36017 := eq_true q36017
                                                refine start_ (n := 15) (S := fun w' => w'.cell? ⟨gb36016, 0, none⟩ = some (.int .i64 ((rd_T42 l0 (rd x10_1 x11_1)).f0)) ∧ w'.cell? ⟨gb36016, 1, none⟩ = some (.int .i64 ((rd_T42 l0 (rd x10_1 x11_1)).f1)) ∧ w'.cell? (ad36017.add (x13_2).toNat) = some (.int .i64 (rd x8_1 x13_2))) (ds := []) #[false, false, false, false, false, false, false, false, false, false, false, false, false, false, false] (by kernel_rfl) rfl rfl ⟨(blk_cell BK36016.out 0).trans rfl, (blk_cell BK36016.out 1).trans rfl, hx36017_0⟩ (fun hHeld => ?_); refine with_tabW spec_PackSprites.tab13 spec_PackSprites.bits13 (fun HT_ HW_ => ?_)
                                                generalize wr.drew = w38 at HO_6 HO_7 HO_8 HO_10 BK36016 HB hx36017_0 hHeld ⊢
                                                refine pure_ (i := 0) (N := some 38) (v := ?_) (a' := ?_) #[true, false, false, false, false, false, false, false, false, false, false, false, false, false, false] rfl rfl (any_of HT_.out (by kernel_rfl)) (fun _ _ _ h => h) (Or.inl ⟨by rfl, ?_⟩) ?_ ?_
                                                rotate_left
                                                · intro w'
                                                  go_simp
                                                  with_reducible rfl
                                                rotate_left
                                                · simp only [Act.put, List.setIfInBounds_toArray, List.set_cons_zero, List.set_cons_succ, i64_w, i32_w]
                                                  rfl
                                                refine pure_ (i := 1) (N := some 39) (v := ?_) (a' := ?_) #[true, true, false, false, false, false, false, false, false, false, false, false, false, false, false] rfl rfl (any_of HT_.out (by kernel_rfl)) (fun _ _ _ h => h) (Or.inl ⟨by rfl, ?_⟩) ?_ ?_
                                                rotate_left
                                                · intro w'
                                                  go_simp
                                                  with_reducible rfl
                                                rotate_left
                                                · simp only [Act.put, List.setIfInBounds_toArray, List.set_cons_zero, List.set_cons_succ, i64_w, i32_w]
                                                  rfl
                                                refine pure_ (i := 2) (N := some 40) (v := ?_) (a' := ?_) #[true, true, true, false, false, false, false, false, false, false, false, false, false, false, false] rfl rfl (any_of HT_.out (by kernel_rfl)) (fun _ _ _ h => h) (Or.inl ⟨by rfl, ?_⟩) ?_ ?_
                                                rotate_left
                                                · intro w'
                                                  go_simp
                                                  with_reducible rfl
                                                rotate_left
                                                · simp only [Act.put, List.setIfInBounds_toArray, List.set_cons_zero, List.set_cons_succ, i64_w, i32_w]
                                                  rfl
                                                refine pure_ (i := 3) (N := some 41) (v := ?_) (a' := ?_) #[true, true, true, true, false, false, false, false, false, false, false, false, false, false, false] rfl rfl (any_of HT_.out (by kernel_rfl)) (fun _ _ _ h => h) (Or.inl ⟨by rfl, ?_⟩) ?_ ?_
                                                rotate_left
                                                · intro w'
                                                  go_simp
                                                  with_reducible rfl
                                                rotate_left
                                                · simp only [Act.put, List.setIfInBounds_toArray, List.set_cons_zero, List.set_cons_succ, i64_w, i32_w]
                                                  rfl
                                                refine pure_ (i := 4) (N := some 42) (v := ?_) (a' := ?_) #[true, true, true, true, true, false, false, false, false, false, false, false, false, false, false] rfl rfl (any_of HT_.out (by kernel_rfl)) (fun _ _ _ h => h) (Or.inl ⟨by rfl, ?_⟩) ?_ ?_
                                                rotate_left
                                                · intro w'
                                                  go_simp
                                                  with_reducible rfl
                                                rotate_left
                                                · simp only [Act.put, List.setIfInBounds_toArray, List.set_cons_zero, List.set_cons_succ, i64_w, i32_w]
                                                  rfl
                                                refine pure_ (i := 5) (N := some 43) (v := ?_) (a' := ?_) #[true, true, true, true, true, true, false, false, false, false, false, false, false, false, false] rfl rfl (any_of HT_.out (by kernel_rfl)) (fun _ _ _ h => h) (Or.inl ⟨by rfl, ?_⟩) ?_ ?_
                                                rotate_left
                                                · intro w'
                                                  go_simp
                                                  with_reducible rfl
                                                rotate_left
                                                · simp only [Act.put, List.setIfInBounds_toArray, List.set_cons_zero, List.set_cons_succ, i64_w, i32_w]
                                                  rfl
                                                refine pure_ (i := 6) (N := some 44) (v := ?_) (a' := ?_) #[true, true, true, true, true, true, true, false, false, false, false, false, false, false, false] rfl rfl (any_of HT_.out (by kernel_rfl)) (fun _ _ _ h => h) (Or.inl ⟨by rfl, ?_⟩) ?_ ?_
                                                rotate_left
                                                · intro w'
                                                  go_simp
                                                  with_reducible rfl
                                                rotate_left
                                                · simp only [Act.put, List.setIfInBounds_toArray, List.set_cons_zero, List.set_cons_succ, i64_w, i32_w]
                                                  rfl
                                                refine pure_ (i := 7) (N := some 45) (v := ?_) (a' := ?_) #[true, true, true, true, true, true, true, true, false, false, false, false, false, false, false] rfl rfl (any_of HT_.out (by kernel_rfl)) (fun _ _ _ h => h) (Or.inl ⟨by rfl, ?_⟩) ?_ ?_
                                                rotate_left
                                                · intro w'
                                                  go_simp
                                                  with_reducible rfl
                                                rotate_left
                                                · simp only [Act.put, List.setIfInBounds_toArray, List.set_cons_zero, List.set_cons_succ, i64_w, i32_w]
                                                  rfl
                                                refine pure_ (i := 9) (N := some 47) (v := ?_) (a' := ?_) #[true, true, true, true, true, true, true, true, false, true, false, false, false, false, false] rfl rfl (any_of HT_.out (by kernel_rfl)) (fun _ _ _ h => h) (Or.inl ⟨by rfl, ?_⟩) ?_ ?_
                                                rotate_left
                                                · intro w'
                                                  go_simp
                                                  with_reducible rfl
                                                rotate_left
                                                · simp only [Act.put, List.setIfInBounds_toArray, List.set_cons_zero, List.set_cons_succ, i64_w, i32_w]
                                                  rfl
                                                refine pure_ (i := 12) (N := some 50) (v := ?_) (a' := ?_) #[true, true, true, true, true, true, true, true, false, true, false, false, true, false, false] rfl rfl (any_of HT_.out (by kernel_rfl)) (fun _ _ _ h => h) (Or.inl ⟨by rfl, ?_⟩) ?_ ?_
                                                rotate_left
                                                · intro w'
                                                  go_simp
                                                  with_reducible rfl
                                                rotate_left
                                                · simp only [Act.put, List.setIfInBounds_toArray, List.set_cons_zero, List.set_cons_succ, i64_w, i32_w]
                                                  rfl
                                                refine take_ (i := 8) (N := some 46) (v := ?_) (a' := ?_) #[true, true, true, true, true, true, true, true, true, true, false, false, true, false, false] rfl rfl (take_ofW HT_.out HW_.out (by kernel_rfl)) (fun _ _ _ h => h) (Or.inl ⟨by rfl, ?_⟩) hHeld ?_ ?_
                                                rotate_left
                                                · rintro w' ⟨s0, s1, s2⟩
                                                  go_simp
                                                  with_reducible rfl
                                                rotate_left
                                                · simp only [Act.put, List.setIfInBounds_toArray, List.set_cons_zero, List.set_cons_succ, i64_w, i32_w]
                                                  rfl
                                                refine take_ (i := 10) (N := some 48) (v := ?_) (a' := ?_) #[true, true, true, true, true, true, true, true, true, true, true, false, true, false, false] rfl rfl (take_ofW HT_.out HW_.out (by kernel_rfl)) (fun _ _ _ h => h) (Or.inl ⟨by rfl, ?_⟩) hHeld ?_ ?_
                                                rotate_left
                                                · rintro w' ⟨s0, s1, s2⟩
                                                  go_simp
                                                  with_reducible rfl
                                                rotate_left
                                                · simp only [Act.put, List.setIfInBounds_toArray, List.set_cons_zero, List.set_cons_succ, i64_w, i32_w]
                                                  rfl
                                                refine pure_ (i := 11) (N := some 49) (v := ?_) (a' := ?_) #[true, true, true, true, true, true, true, true, true, true, true, true, true, false, false] rfl rfl (any_of HT_.out (by kernel_rfl)) (fun _ _ _ h => h) (Or.inl ⟨by rfl, ?_⟩) ?_ ?_
                                                rotate_left
                                                · intro w'
                                                  go_simp
                                                  with_reducible rfl
                                                rotate_left
                                                · simp only [Act.put, List.setIfInBounds_toArray, List.set_cons_zero, List.set_cons_succ, i64_w, i32_w]
                                                  rfl
                                                refine pure_ (i := 13) (N := some 51) (v := ?_) (a' := ?_) #[true, true, true, true, true, true, true, true, true, true, true, true, true, true, false] rfl rfl (any_of HT_.out (by kernel_rfl)) (fun _ _ _ h => h) (Or.inl ⟨by rfl, ?_⟩) ?_ ?_
                                                rotate_left
                                                · intro w'
                                                  go_simp
                                                  with_reducible rfl
                                                rotate_left
                                                · simp only [Act.put, List.setIfInBounds_toArray, List.set_cons_zero, List.set_cons_succ, i64_w, i32_w]
                                                  rfl
                                                refine pure_ (i := 14) (N := some 52) (v := ?_) (a' := ?_) #[true, true, true, true, true, true, true, true, true, true, true, true, true, true, true] rfl rfl (any_of HT_.out (by kernel_rfl)) (fun _ _ _ h => h) (Or.inl ⟨by rfl, ?_⟩) ?_ ?_
                                                rotate_left
                                                · intro w'
                                                  go_simp
                                                  with_reducible rfl
                                                rotate_left
                                                · simp only [Act.put, List.setIfInBounds_toArray, List.set_cons_zero, List.set_cons_succ, i64_w, i32_w]
                                                  rfl
                                                refine done_ (done_of HT_.out (by kernel_rfl)) ?_
                                                try go_wp2_with (first | ((with_reducible refine gate_builtin (b := .append) (xs := #[.tmp 59, .tmp 61]) rfl ?_); at_builtin; refine Kd.R_append (Kd.int .i64) (w0 := w) w.heap.size rfl (.tmp 59) (.tmp 61) 57 3 (.int .i64 0) 8 rfl Try.underlying57 info3 rfl (by decide) (by omega) u7 x7_1 x9_1 [.int .i64 x9_1] (fun k_ => some k_ ≠ (.slice (some ad36017) x8_1.length co39 : Value).ownBlock ∧ some k_ ≠ (.slice (some ad36014) x10_1.length co19 : Value).ownBlock) (fun _ => False) rfl rfl ?aP (fun _ hk => hk.elim) ?aF ?aO ?aB ?aS ?aL ?_; (case aP => exact rfl); (case aB => exact (by repeat (first | (with_reducible first | exact HB.out | apply below_alloc | apply pw_below_drewN | apply below_drew1 | refine below_set ?_ GE36016.out) | exact HB.out))); (case aF => exact (fun k_ hk => ⟨Kd.fresh' (Kd.R_lt (by (with_reducible repeat (first | apply Kd.R_alloc | apply Kd.R_drewN | apply Kd.R_drew)); exact HO_8.out)) k_ hk, Kd.fresh' (Kd.R_lt (by (with_reducible repeat (first | apply Kd.R_alloc | apply Kd.R_drewN | apply Kd.R_drew)); exact HO_10.out)) k_ hk⟩)); (case aO => exact (by (with_reducible repeat (first | apply Kd.R_alloc | apply Kd.R_drewN | apply Kd.R_drew)); exact HO_7.out)); (case aS => exact (below_size (by repeat (first | (with_reducible first | exact HB.out | apply below_alloc | apply pw_below_drewN | apply below_drew1 | refine below_set ?_ GE36016.out) | exact HB.out)))); (case aL => have := LMc28.out; omega); intro v36019 w40 ho hb hg hat; rw [← Ny36018.out] at ho; have n0_ := Aside0.mk (Kd.R_over' (by (with_reducible repeat (first | apply Kd.R_alloc | apply Kd.R_drewN | apply Kd.R_drew)); exact HO_6.out) (Kd.R_typed (by (with_reducible repeat (first | apply Kd.R_alloc | apply Kd.R_drewN | apply Kd.R_drew)); exact HO_7.out)) (by decide) hg); have n1_ := Aside0.mk (Kd.R_after (ok := (fun k_ => some k_ ≠ (.slice (some ad36014) x10_1.length co19 : Value).ownBlock)) (by (with_reducible repeat (first | apply Kd.R_alloc | apply Kd.R_drewN | apply Kd.R_drew)); exact Kd.R_mono HO_8.out (fun _ hk => ⟨hk.2, hk.1⟩)) hg hat); have n2_ := Aside0.mk (Kd.R_after (ok := (fun k_ => some k_ ≠ (.slice (some ad36017) x8_1.length co39 : Value).ownBlock)) (by (with_reducible repeat (first | apply Kd.R_alloc | apply Kd.R_drewN | apply Kd.R_drew)); exact Kd.R_mono HO_10.out (fun _ hk => ⟨hk.2, hk.1⟩)) hg hat); have n3_ := Aside0.mk (blk_grown (g := gb36016) (o := .cells #[.int .i64 ((rd_T42 l0 (rd x10_1 x11_1)).f0), .int .i64 ((rd_T42 l0 (rd x10_1 x11_1)).f1)] 42 (0, 0)) (by (with_reducible repeat (first | refine blk_drewN ?_ _ | refine blk_drew ?_ | refine blk_alloc ?_ _)); exact BK36016.out) hg (Kd.R_ne HO_7.out BK36016.out (by decide))); have n4_ := Aside0.mk (hb); have n5_ := Aside0.mk (ho); clear HO_6; clear HO_8; clear HO_10; clear BK36016; clear HB; clear HO_7; have HO_6 := n0_; have HO_8 := n1_; have HO_10 := n2_; have BK36016 := n3_; have HB := n4_; have HO36020 := n5_; clear n0_ n1_ n2_ n3_ n4_ n5_; clear ho hb hg hat) | ((with_reducible refine gate_builtin (b := .append) (xs := #[.tmp 63, .tmp 64]) rfl ?_); at_builtin; refine Kd.R_append (Kd.int .i64) (w0 := w) w.heap.size rfl (.tmp 63) (.tmp 64) 57 3 (.int .i64 0) 8 rfl Try.underlying57 info3 rfl (by decide) (by omega) (.slice (some ad36017) x8_1.length co39) x8_1 0 [.int .i64 0] (fun k_ => some k_ ≠ (.slice (some ad36014) x10_1.length co19 : Value).ownBlock ∧ some k_ ≠ (v36019 : Value).ownBlock) (fun _ => False) rfl rfl ?aP (fun _ hk => hk.elim) ?aF ?aO ?aB ?aS ?aL ?_; (case aP => exact rfl); (case aB => exact (by repeat (first | (with_reducible first | exact HB.out | apply below_alloc | apply pw_below_drewN | apply below_drew1 | refine below_set ?_ GE36016.out) | exact HB.out))); (case aF => exact (fun k_ hk => ⟨Kd.fresh' (Kd.R_lt (by (with_reducible repeat (first | apply Kd.R_alloc | apply Kd.R_drewN | apply Kd.R_drew)); exact HO_10.out)) k_ hk, Kd.fresh' (Kd.R_lt (by (with_reducible repeat (first | apply Kd.R_alloc | apply Kd.R_drewN | apply Kd.R_drew)); exact HO36020.out)) k_ hk⟩)); (case aO => exact (by (with_reducible repeat (first | apply Kd.R_alloc | apply Kd.R_drewN | apply Kd.R_drew)); exact HO_8.out)); (case aS => exact (below_size (by repeat (first | (with_reducible first | exact HB.out | apply below_alloc | apply pw_below_drewN | apply below_drew1 | refine below_set ?_ GE36016.out) | exact HB.out)))); (case aL => have := LMc29.out; omega); intro v36022 w41 ho hb hg hat; rw [← Ny36021.out] at ho; have n0_ := Aside0.mk (Kd.R_over' (by (with_reducible repeat (first | apply Kd.R_alloc | apply Kd.R_drewN | apply Kd.R_drew)); exact HO_6.out) (Kd.R_typed (by (with_reducible repeat (first | apply Kd.R_alloc | apply Kd.R_drewN | apply Kd.R_drew)); exact HO_8.out)) (by decide) hg); have n1_ := Aside0.mk (Kd.R_after (ok := (fun k_ => some k_ ≠ (v36019 : Value).ownBlock)) (by (with_reducible repeat (first | apply Kd.R_alloc | apply Kd.R_drewN | apply Kd.R_drew)); exact Kd.R_mono HO_10.out (fun _ hk => ⟨hk.2, hk.1⟩)) hg hat); have n2_ := Aside0.mk (blk_grown (g := gb36016) (o := .cells #[.int .i64 ((rd_T42 l0 (rd x10_1 x11_1)).f0), .int .i64 ((rd_T42 l0 (rd x10_1 x11_1)).f1)] 42 (0, 0)) (by (with_reducible repeat (first | refine blk_drewN ?_ _ | refine blk_drew ?_ | refine blk_alloc ?_ _)); exact BK36016.out) hg (Kd.R_ne HO_8.out BK36016.out (by decide))); have n3_ := Aside0.mk (Kd.R_after (ok := (fun k_ => some k_ ≠ (.slice (some ad36014) x10_1.length co19 : Value).ownBlock)) (by (with_reducible repeat (first | apply Kd.R_alloc | apply Kd.R_drewN | apply Kd.R_drew)); exact Kd.R_mono HO36020.out (fun _ hk => ⟨hk.2, hk.1⟩)) hg hat); have n4_ := Aside0.mk (hb); have n5_ := Aside0.mk (ho); clear HO_6; clear HO_10; clear BK36016; clear HO36020; clear HB; clear HO_8; have HO_6 := n0_; have HO_10 := n1_; have BK36016 := n2_; have HO36020 := n3_; have HB := n4_; have HO36023 := n5_; clear n0_ n1_ n2_ n3_ n4_ n5_; clear ho hb hg hat; have hcz42_0 : w41.cell? ⟨gb36016, 0, none⟩ = some (.int .i64 ((rd_T42 l0 (rd x10_1 x11_1)).f0)) := (blk_cell BK36016.out 0).trans rfl; have hcz42_1 : w41.cell? ⟨gb36016, 1, none⟩ = some (.int .i64 ((rd_T42 l0 (rd x10_1 x11_1)).f1)) := (blk_cell BK36016.out 1).trans rfl; have hfz42_0 := blk_frozen BK36016.out 0; have hfz42_1 := blk_frozen BK36016.out 1))
                                                have n0_ := Aside0.mk (Kd.R_drew HO_6.out)
                                                have n1_ := Aside0.mk (Kd.R_drew HO_10.out)
                                                have n2_ := Aside0.mk (Kd.R_drew HO36020.out)
                                                have n3_ := Aside0.mk (Kd.R_drew HO36023.out)
                                                have n4_ := Aside0.mk (blk_drew BK36016.out)
                                                have n5_ := Aside0.mk (below_drew1 HB.out)
                                                clear HO_6
                                                clear HO_10
                                                clear HO36020
                                                clear HO36023
                                                clear BK36016
                                                clear HB
                                                have HO_6 := n0_
                                                have HO_10 := n1_
                                                have HO36020 := n2_
                                                have HO36023 := n3_
                                                have BK36016 := n4_
                                                have HB := n5_
                                                clear n0_ n1_ n2_ n3_ n4_ n5_
                                                have p36024 : 0 ≤ (x11_1 : Int) := of_decide_eq_true (by first | (with_reducible assumption) | assumption)
                                                have q36024 : x11_1 < (x10_1.length : Int) := of_decide_eq_true (by first | (with_reducible assumption) | assumption)
                                                obtain ⟨ad36024, e36024, hx36024_0⟩ := Kd.at_int (Kd.R_reads' HO_10.out).2.2 x11_1 p36024 q36024
                                                obtain rfl : ad36014 = ad36024 := (by injection e36024)
                                                replace p36024 := eq_true p36024
                                                replace q36024 := eq_true q36024
                                                obtain ⟨Ao44, co44, eo44⟩ := Kd.R_slice HO36023.out
                                                (first | subst eo44 | (injection eo44 with f1_ f2_ f3_; have f4_ := f1_.symm; have f5_ := f3_.symm; clear f1_ f2_ f3_; subst f4_; subst f5_))
                                                have p36025 : 0 ≤ (x13_2 : Int) := of_decide_eq_true (by first | (with_reducible assumption) | assumption)
                                                have q36025 : x13_2 < (y36021.length : Int) := of_decide_eq_true (by first | (with_reducible assumption) | assumption)
                                                obtain ⟨ad36025, e36025, hx36025_0⟩ := Kd.at_int (Kd.R_reads' HO36023.out).2.2 x13_2 p36025 q36025
                                                cases e36025
                                                replace p36025 := eq_true p36025
                                                replace q36025 := eq_true q36025
                                                obtain ⟨Ao45, co45, eo45⟩ := Kd.R_slice HO36020.out
                                                (first | subst eo45 | (injection eo45 with f1_ f2_ f3_; have f4_ := f1_.symm; have f5_ := f3_.symm; clear f1_ f2_ f3_; subst f4_; subst f5_))
                                                have p36026 : 0 ≤ (x13_2 : Int) := of_decide_eq_true (by first | (with_reducible assumption) | assumption)
                                                have q36026 : x13_2 < (y36018.length : Int) := of_decide_eq_true (by first | (with_reducible assumption) | assumption)
                                                obtain ⟨ad36026, e36026, hx36026_0⟩ := Kd.at_int (Kd.R_reads' HO36020.out).2.2 x13_2 p36026 q36026
                                                cases e36026
                                                replace p36026 := eq_true p36026
                                                replace q36026 := eq_true q36026
                                                have p36 : 0 ≤ ((rd x10_1 x11_1) : Int) := of_decide_eq_true (by first | (with_reducible assumption) | assumption)
                                                have q36 : ((rd x10_1 x11_1) : Int) < ((x6_1.length : Int) : Int) := of_decide_eq_true (by first | (with_reducible assumption) | assumption)
                                                obtain ⟨go36, co36, eo36, gb36, gl36, cl36, HG36⟩ := Kd.R_form HO_6.out (by omega)
                                                (first | cases eo36 | (injection eo36 with ea_ en_ ec_; (first | subst ea_ | (injection ea_ with ea_; subst ea_)); subst ec_; clear en_))
                                                have GB36 := Aside0.mk gb36
                                                have GG36 := Aside0.mk HG36
                                                clear gb36 gl36 HG36
                                                obtain ⟨ce36, hcl36, hM36, hcc36, hfr36⟩ := Kd.R_elem HO_6.out z50 ((rd x10_1 x11_1) : Int) p36 q36
                                                obtain rfl := k50_openM hM36
                                                have hx36_0 : World.cell? _ ⟨go36, ((rd x10_1 x11_1) : Int).toNat * 4, none⟩ = some (.int .i64 ((rd_T50 x6_1 (rd x10_1 x11_1)).f0)) := hcc36 0 _ rfl
                                                have hx36_1 : World.cell? _ ⟨go36, ((rd x10_1 x11_1) : Int).toNat * 4 + 1, none⟩ = some (.int .i64 ((rd_T50 x6_1 (rd x10_1 x11_1)).f1)) := hcc36 1 _ rfl
                                                have hx36_2 : World.cell? _ ⟨go36, ((rd x10_1 x11_1) : Int).toNat * 4 + 2, none⟩ = some (.int .i64 ((rd_T50 x6_1 (rd x10_1 x11_1)).f2)) := hcc36 2 _ rfl
                                                have hx36_3 : World.cell? _ ⟨go36, ((rd x10_1 x11_1) : Int).toNat * 4 + 3, none⟩ = some (.int .i64 ((rd_T50 x6_1 (rd x10_1 x11_1)).f3)) := hcc36 3 _ rfl
                                                have hf36_0 : World.frozen? _ ⟨go36, ((rd x10_1 x11_1) : Int).toNat * 4, none⟩ = false := hfr36 0
                                                have hf36_1 : World.frozen? _ ⟨go36, ((rd x10_1 x11_1) : Int).toNat * 4 + 1, none⟩ = false := hfr36 1
                                                have hf36_2 : World.frozen? _ ⟨go36, ((rd x10_1 x11_1) : Int).toNat * 4 + 2, none⟩ = false := hfr36 2
                                                have hf36_3 : World.frozen? _ ⟨go36, ((rd x10_1 x11_1) : Int).toNat * 4 + 3, none⟩ = false := hfr36 3
                                                clear hcl36 hcc36 hfr36 hM36
                                                replace p36 := eq_true p36
                                                replace q36 := eq_true q36
                                                obtain ⟨ce46, hcl46, hM46, hcc46, hfr46⟩ := Kd.R_elem HO_6.out z50 ((rd x10_1 x11_1) : Int) (of_decide_eq_true (by first | (with_reducible assumption) | assumption)) (by have h_ : ((rd x10_1 x11_1) : Int) < ((x6_1.length : Int) : Int) := of_decide_eq_true (by first | (with_reducible assumption) | assumption); first | exact h_ | (have e_ := (Kd.R_reads' HO_6.out).1; omega) | simpa using h_)
                                                obtain rfl := k50_openM hM46
                                                have HP46 := (Kd.R_seg HO_6.out ((rd x10_1 x11_1) : Int) (of_decide_eq_true (by first | (with_reducible assumption) | assumption)) (by have h_ : ((rd x10_1 x11_1) : Int) < ((x6_1.length : Int) : Int) := of_decide_eq_true (by first | (with_reducible assumption) | assumption); first | exact h_ | (have e_ := (Kd.R_reads' HO_6.out).1; omega) | simpa using h_) (seg := [.int .i64 (rd y36021 x13_2), .int .i64 (rd y36018 x13_2), .int .i64 ((rd_T42 l0 (rd x10_1 x11_1)).f0), .int .i64 ((rd_T42 l0 (rd x10_1 x11_1)).f1)]) (j := 0) hcl46 hcc46 (show 4 ≤ 4 from by decide) (x' := (⟨rd y36021 x13_2, rd y36018 x13_2, ((rd_T42 l0 (rd x10_1 x11_1)).f0), ((rd_T42 l0 (rd x10_1 x11_1)).f1)⟩ : S50)) (k50_mkM _ _ _ (⟨rd y36021 x13_2, rd y36018 x13_2, ((rd_T42 l0 (rd x10_1 x11_1)).f0), ((rd_T42 l0 (rd x10_1 x11_1)).f1)⟩ : S50) ) (fun _ hk => hk)).1
                                                rw [← Ny36027.out] at HP46
                                                have HQ46 := Aside0.mk HP46
                                                clear hcl46 hcc46 hfr46 hM46 HP46
                                                refine start_ (n := 20) (S := fun w' => w'.cell? ⟨gb36016, 0, none⟩ = some (.int .i64 ((rd_T42 l0 (rd x10_1 x11_1)).f0)) ∧ w'.cell? ⟨gb36016, 1, none⟩ = some (.int .i64 ((rd_T42 l0 (rd x10_1 x11_1)).f1)) ∧ w'.cell? (ad36014.add (x11_1).toNat) = some (.int .i64 (rd x10_1 x11_1)) ∧ w'.cell? (ad36025.add (x13_2).toNat) = some (.int .i64 (rd y36021 x13_2)) ∧ w'.cell? (ad36026.add (x13_2).toNat) = some (.int .i64 (rd y36018 x13_2))) (ds := [19]) #[false, false, false, false, false, false, false, false, false, false, false, false, false, false, false, false, false, false, false, false] (by kernel_rfl) rfl rfl ⟨(blk_cell BK36016.out 0).trans rfl, (blk_cell BK36016.out 1).trans rfl, hx36024_0, hx36025_0, hx36026_0⟩ (fun hHeld => ?_); refine with_tabW spec_PackSprites.tab19 spec_PackSprites.bits19 (fun HT_ HW_ => ?_)
                                                generalize w41.drew = w43 at HO_6 HO_10 HO36020 HO36023 BK36016 HB GG36 HQ46 hf36_0 hf36_1 hf36_2 hf36_3 hx36024_0 hx36025_0 hx36026_0 hx36_0 hx36_1 hx36_2 hx36_3 hHeld ⊢
                                                refine pure_ (i := 0) (N := some 70) (v := ?_) (a' := ?_) #[true, false, false, false, false, false, false, false, false, false, false, false, false, false, false, false, false, false, false, false] rfl rfl (any_of HT_.out (by kernel_rfl)) (fun _ _ _ h => h) (Or.inl ⟨by rfl, ?_⟩) ?_ ?_
                                                rotate_left
                                                · intro w'
                                                  go_simp
                                                  with_reducible rfl
                                                rotate_left
                                                · simp only [Act.put, List.setIfInBounds_toArray, List.set_cons_zero, List.set_cons_succ, i64_w, i32_w]
                                                  rfl
                                                refine pure_ (i := 1) (N := some 71) (v := ?_) (a' := ?_) #[true, true, false, false, false, false, false, false, false, false, false, false, false, false, false, false, false, false, false, false] rfl rfl (any_of HT_.out (by kernel_rfl)) (fun _ _ _ h => h) (Or.inl ⟨by rfl, ?_⟩) ?_ ?_
                                                rotate_left
                                                · intro w'
                                                  go_simp
                                                  with_reducible rfl
                                                rotate_left
                                                · simp only [Act.put, List.setIfInBounds_toArray, List.set_cons_zero, List.set_cons_succ, i64_w, i32_w]
                                                  rfl
                                                refine pure_ (i := 2) (N := some 72) (v := ?_) (a' := ?_) #[true, true, true, false, false, false, false, false, false, false, false, false, false, false, false, false, false, false, false, false] rfl rfl (any_of HT_.out (by kernel_rfl)) (fun _ _ _ h => h) (Or.inl ⟨by rfl, ?_⟩) ?_ ?_
                                                rotate_left
                                                · intro w'
                                                  go_simp
                                                  with_reducible rfl
                                                rotate_left
                                                · simp only [Act.put, List.setIfInBounds_toArray, List.set_cons_zero, List.set_cons_succ, i64_w, i32_w]
                                                  rfl
                                                refine pure_ (i := 3) (N := some 73) (v := ?_) (a' := ?_) #[true, true, true, true, false, false, false, false, false, false, false, false, false, false, false, false, false, false, false, false] rfl rfl (any_of HT_.out (by kernel_rfl)) (fun _ _ _ h => h) (Or.inl ⟨by rfl, ?_⟩) ?_ ?_
                                                rotate_left
                                                · intro w'
                                                  go_simp
                                                  with_reducible rfl
                                                rotate_left
                                                · simp only [Act.put, List.setIfInBounds_toArray, List.set_cons_zero, List.set_cons_succ, i64_w, i32_w]
                                                  rfl
                                                refine pure_ (i := 5) (N := some 75) (v := ?_) (a' := ?_) #[true, true, true, true, false, true, false, false, false, false, false, false, false, false, false, false, false, false, false, false] rfl rfl (any_of HT_.out (by kernel_rfl)) (fun _ _ _ h => h) (Or.inl ⟨by rfl, ?_⟩) ?_ ?_
                                                rotate_left
                                                · intro w'
                                                  go_simp
                                                  with_reducible rfl
                                                rotate_left
                                                · simp only [Act.put, List.setIfInBounds_toArray, List.set_cons_zero, List.set_cons_succ, i64_w, i32_w]
                                                  rfl
                                                refine pure_ (i := 6) (N := some 76) (v := ?_) (a' := ?_) #[true, true, true, true, false, true, true, false, false, false, false, false, false, false, false, false, false, false, false, false] rfl rfl (any_of HT_.out (by kernel_rfl)) (fun _ _ _ h => h) (Or.inl ⟨by rfl, ?_⟩) ?_ ?_
                                                rotate_left
                                                · intro w'
                                                  go_simp
                                                  with_reducible rfl
                                                rotate_left
                                                · simp only [Act.put, List.setIfInBounds_toArray, List.set_cons_zero, List.set_cons_succ, i64_w, i32_w]
                                                  rfl
                                                refine pure_ (i := 7) (N := some 77) (v := ?_) (a' := ?_) #[true, true, true, true, false, true, true, true, false, false, false, false, false, false, false, false, false, false, false, false] rfl rfl (any_of HT_.out (by kernel_rfl)) (fun _ _ _ h => h) (Or.inl ⟨by rfl, ?_⟩) ?_ ?_
                                                rotate_left
                                                · intro w'
                                                  go_simp
                                                  with_reducible rfl
                                                rotate_left
                                                · simp only [Act.put, List.setIfInBounds_toArray, List.set_cons_zero, List.set_cons_succ, i64_w, i32_w]
                                                  rfl
                                                refine pure_ (i := 9) (N := some 79) (v := ?_) (a' := ?_) #[true, true, true, true, false, true, true, true, false, true, false, false, false, false, false, false, false, false, false, false] rfl rfl (any_of HT_.out (by kernel_rfl)) (fun _ _ _ h => h) (Or.inl ⟨by rfl, ?_⟩) ?_ ?_
                                                rotate_left
                                                · intro w'
                                                  go_simp
                                                  with_reducible rfl
                                                rotate_left
                                                · simp only [Act.put, List.setIfInBounds_toArray, List.set_cons_zero, List.set_cons_succ, i64_w, i32_w]
                                                  rfl
                                                refine pure_ (i := 10) (N := some 80) (v := ?_) (a' := ?_) #[true, true, true, true, false, true, true, true, false, true, true, false, false, false, false, false, false, false, false, false] rfl rfl (any_of HT_.out (by kernel_rfl)) (fun _ _ _ h => h) (Or.inl ⟨by rfl, ?_⟩) ?_ ?_
                                                rotate_left
                                                · intro w'
                                                  go_simp
                                                  with_reducible rfl
                                                rotate_left
                                                · simp only [Act.put, List.setIfInBounds_toArray, List.set_cons_zero, List.set_cons_succ, i64_w, i32_w]
                                                  rfl
                                                refine pure_ (i := 11) (N := some 81) (v := ?_) (a' := ?_) #[true, true, true, true, false, true, true, true, false, true, true, true, false, false, false, false, false, false, false, false] rfl rfl (any_of HT_.out (by kernel_rfl)) (fun _ _ _ h => h) (Or.inl ⟨by rfl, ?_⟩) ?_ ?_
                                                rotate_left
                                                · intro w'
                                                  go_simp
                                                  with_reducible rfl
                                                rotate_left
                                                · simp only [Act.put, List.setIfInBounds_toArray, List.set_cons_zero, List.set_cons_succ, i64_w, i32_w]
                                                  rfl
                                                refine pure_ (i := 13) (N := some 83) (v := ?_) (a' := ?_) #[true, true, true, true, false, true, true, true, false, true, true, true, false, true, false, false, false, false, false, false] rfl rfl (any_of HT_.out (by kernel_rfl)) (fun _ _ _ h => h) (Or.inl ⟨by rfl, ?_⟩) ?_ ?_
                                                rotate_left
                                                · intro w'
                                                  go_simp
                                                  with_reducible rfl
                                                rotate_left
                                                · simp only [Act.put, List.setIfInBounds_toArray, List.set_cons_zero, List.set_cons_succ, i64_w, i32_w]
                                                  rfl
                                                refine pure_ (i := 15) (N := some 85) (v := ?_) (a' := ?_) #[true, true, true, true, false, true, true, true, false, true, true, true, false, true, false, true, false, false, false, false] rfl rfl (any_of HT_.out (by kernel_rfl)) (fun _ _ _ h => h) (Or.inl ⟨by rfl, ?_⟩) ?_ ?_
                                                rotate_left
                                                · intro w'
                                                  go_simp
                                                  with_reducible rfl
                                                rotate_left
                                                · simp only [Act.put, List.setIfInBounds_toArray, List.set_cons_zero, List.set_cons_succ, i64_w, i32_w]
                                                  rfl
                                                refine take_ (i := 4) (N := some 74) (v := ?_) (a' := ?_) #[true, true, true, true, true, true, true, true, false, true, true, true, false, true, false, true, false, false, false, false] rfl rfl (take_ofW HT_.out HW_.out (by kernel_rfl)) (fun _ _ _ h => h) (Or.inl ⟨by rfl, ?_⟩) hHeld ?_ ?_
                                                rotate_left
                                                · rintro w' ⟨s0, s1, s2, s3, s4⟩
                                                  go_simp
                                                  with_reducible rfl
                                                rotate_left
                                                · simp only [Act.put, List.setIfInBounds_toArray, List.set_cons_zero, List.set_cons_succ, i64_w, i32_w]
                                                  rfl
                                                refine take_ (i := 8) (N := some 78) (v := ?_) (a' := ?_) #[true, true, true, true, true, true, true, true, true, true, true, true, false, true, false, true, false, false, false, false] rfl rfl (take_ofW HT_.out HW_.out (by kernel_rfl)) (fun _ _ _ h => h) (Or.inl ⟨by rfl, ?_⟩) hHeld ?_ ?_
                                                rotate_left
                                                · rintro w' ⟨s0, s1, s2, s3, s4⟩
                                                  go_simp
                                                  with_reducible rfl
                                                rotate_left
                                                · simp only [Act.put, List.setIfInBounds_toArray, List.set_cons_zero, List.set_cons_succ, i64_w, i32_w]
                                                  rfl
                                                refine take_ (i := 12) (N := some 82) (v := ?_) (a' := ?_) #[true, true, true, true, true, true, true, true, true, true, true, true, true, true, false, true, false, false, false, false] rfl rfl (take_ofW HT_.out HW_.out (by kernel_rfl)) (fun _ _ _ h => h) (Or.inl ⟨by rfl, ?_⟩) hHeld ?_ ?_
                                                rotate_left
                                                · rintro w' ⟨s0, s1, s2, s3, s4⟩
                                                  go_simp
                                                  with_reducible rfl
                                                rotate_left
                                                · simp only [Act.put, List.setIfInBounds_toArray, List.set_cons_zero, List.set_cons_succ, i64_w, i32_w]
                                                  rfl
                                                refine take_ (i := 14) (N := some 84) (v := ?_) (a' := ?_) #[true, true, true, true, true, true, true, true, true, true, true, true, true, true, true, true, false, false, false, false] rfl rfl (take_ofW HT_.out HW_.out (by kernel_rfl)) (fun _ _ _ h => h) (Or.inl ⟨by rfl, ?_⟩) hHeld ?_ ?_
                                                rotate_left
                                                · rintro w' ⟨s0, s1, s2, s3, s4⟩
                                                  go_simp
                                                  with_reducible rfl
                                                rotate_left
                                                · simp only [Act.put, List.setIfInBounds_toArray, List.set_cons_zero, List.set_cons_succ, i64_w, i32_w]
                                                  rfl
                                                refine take_ (i := 16) (N := some 86) (v := ?_) (a' := ?_) #[true, true, true, true, true, true, true, true, true, true, true, true, true, true, true, true, true, false, false, false] rfl rfl (take_ofW HT_.out HW_.out (by kernel_rfl)) (fun _ _ _ h => h) (Or.inl ⟨by rfl, ?_⟩) hHeld ?_ ?_
                                                rotate_left
                                                · rintro w' ⟨s0, s1, s2, s3, s4⟩
                                                  go_simp
                                                  with_reducible rfl
                                                rotate_left
                                                · simp only [Act.put, List.setIfInBounds_toArray, List.set_cons_zero, List.set_cons_succ, i64_w, i32_w]
                                                  rfl
                                                refine pure_ (i := 17) (N := some 87) (v := ?_) (a' := ?_) #[true, true, true, true, true, true, true, true, true, true, true, true, true, true, true, true, true, true, false, false] rfl rfl (any_of HT_.out (by kernel_rfl)) (fun _ _ _ h => h) (Or.inl ⟨by rfl, ?_⟩) ?_ ?_
                                                rotate_left
                                                · intro w'
                                                  go_simp
                                                  with_reducible rfl
                                                rotate_left
                                                · simp only [Act.put, List.setIfInBounds_toArray, List.set_cons_zero, List.set_cons_succ, i64_w, i32_w]
                                                  rfl
                                                refine pure_ (i := 18) (N := some 88) (v := ?_) (a' := ?_) #[true, true, true, true, true, true, true, true, true, true, true, true, true, true, true, true, true, true, true, false] rfl rfl (any_of HT_.out (by kernel_rfl)) (fun _ _ _ h => h) (Or.inl ⟨by rfl, ?_⟩) ?_ ?_
                                                rotate_left
                                                · intro w'
                                                  go_simp
                                                  with_reducible rfl
                                                rotate_left
                                                · simp only [Act.put, List.setIfInBounds_toArray, List.set_cons_zero, List.set_cons_succ, i64_w, i32_w]
                                                  rfl
                                                refine last_ (i := 19) (N := none) #[true, true, true, true, true, true, true, true, true, true, true, true, true, true, true, true, true, true, true, true] rfl rfl (one_of HT_.out (by kernel_rfl)) (by decide) (fun K hK => ?_)
                                                refine skip_ (w1 := ?_) (by rfl) rfl ?_ ?_
                                                rotate_left
                                                · go_simp
                                                  rfl
                                                refine hK.out _ _ ?_
                                                clear hK K
                                                refine done_ (done_of HT_.out (by kernel_rfl)) ?_
                                                try go_wp2
                                                have n0_ : Aside0 (Kd.R k50 50 ((((w43.setCell ⟨go36, ((rd x10_1 x11_1) : Int).toNat * 4, none⟩ (.int .i64 (rd y36021 x13_2))).setCell ⟨go36, ((rd x10_1 x11_1) : Int).toNat * 4 + 1, none⟩ (.int .i64 (rd y36018 x13_2))).setCell ⟨go36, ((rd x10_1 x11_1) : Int).toNat * 4 + 2, none⟩ (.int .i64 ((rd_T42 l0 (rd x10_1 x11_1)).f0))).setCell ⟨go36, ((rd x10_1 x11_1) : Int).toNat * 4 + 3, none⟩ (.int .i64 ((rd_T42 l0 (rd x10_1 x11_1)).f1))) w.heap.size (fun _ => True) (.slice (some ⟨go36, 0, none⟩) x6_1.length co36) y36027) := ⟨by (with_reducible repeat (first | apply Kd.R_alloc | apply Kd.R_drewN | apply Kd.R_drew)); exact HQ46.out⟩
                                                have n1_ : Aside0 (Kd.R (Kd.int .i64) 3 ((((w43.setCell ⟨go36, ((rd x10_1 x11_1) : Int).toNat * 4, none⟩ (.int .i64 (rd y36021 x13_2))).setCell ⟨go36, ((rd x10_1 x11_1) : Int).toNat * 4 + 1, none⟩ (.int .i64 (rd y36018 x13_2))).setCell ⟨go36, ((rd x10_1 x11_1) : Int).toNat * 4 + 2, none⟩ (.int .i64 ((rd_T42 l0 (rd x10_1 x11_1)).f0))).setCell ⟨go36, ((rd x10_1 x11_1) : Int).toNat * 4 + 3, none⟩ (.int .i64 ((rd_T42 l0 (rd x10_1 x11_1)).f1))) w.heap.size (fun k_ => some k_ ≠ (.slice (some ad36026) y36018.length co45 : Value).ownBlock ∧ some k_ ≠ (.slice (some ad36025) y36021.length co44 : Value).ownBlock) (.slice (some ad36014) x10_1.length co19) x10_1) := ⟨by (with_reducible repeat (first | apply Kd.R_alloc | apply Kd.R_drewN | apply Kd.R_drew)); exact Kd.R_mono (Kd.R_far (p := ⟨go36, ((rd x10_1 x11_1) : Int).toNat * 4 + 3, none⟩) (Kd.R_far (p := ⟨go36, ((rd x10_1 x11_1) : Int).toNat * 4 + 2, none⟩) (Kd.R_far (p := ⟨go36, ((rd x10_1 x11_1) : Int).toNat * 4 + 1, none⟩) (Kd.R_far (p := ⟨go36, ((rd x10_1 x11_1) : Int).toNat * 4, none⟩) (Kd.R_types HO_10.out GG36.out (by decide)) (fun _ hk => hk.2) (.int .i64 (rd y36021 x13_2))) (fun _ hk => hk.2) (.int .i64 (rd y36018 x13_2))) (fun _ hk => hk.2) (.int .i64 ((rd_T42 l0 (rd x10_1 x11_1)).f0))) (fun _ hk => hk.2) (.int .i64 ((rd_T42 l0 (rd x10_1 x11_1)).f1))) (fun _ hk => ⟨hk.1.1, hk.1.2⟩)⟩
                                                have n2_ : Aside0 (Kd.R (Kd.int .i64) 3 ((((w43.setCell ⟨go36, ((rd x10_1 x11_1) : Int).toNat * 4, none⟩ (.int .i64 (rd y36021 x13_2))).setCell ⟨go36, ((rd x10_1 x11_1) : Int).toNat * 4 + 1, none⟩ (.int .i64 (rd y36018 x13_2))).setCell ⟨go36, ((rd x10_1 x11_1) : Int).toNat * 4 + 2, none⟩ (.int .i64 ((rd_T42 l0 (rd x10_1 x11_1)).f0))).setCell ⟨go36, ((rd x10_1 x11_1) : Int).toNat * 4 + 3, none⟩ (.int .i64 ((rd_T42 l0 (rd x10_1 x11_1)).f1))) w.heap.size (fun k_ => some k_ ≠ (.slice (some ad36014) x10_1.length co19 : Value).ownBlock ∧ some k_ ≠ (.slice (some ad36025) y36021.length co44 : Value).ownBlock) (.slice (some ad36026) y36018.length co45) y36018) := ⟨by (with_reducible repeat (first | apply Kd.R_alloc | apply Kd.R_drewN | apply Kd.R_drew)); exact Kd.R_mono (Kd.R_far (p := ⟨go36, ((rd x10_1 x11_1) : Int).toNat * 4 + 3, none⟩) (Kd.R_far (p := ⟨go36, ((rd x10_1 x11_1) : Int).toNat * 4 + 2, none⟩) (Kd.R_far (p := ⟨go36, ((rd x10_1 x11_1) : Int).toNat * 4 + 1, none⟩) (Kd.R_far (p := ⟨go36, ((rd x10_1 x11_1) : Int).toNat * 4, none⟩) (Kd.R_types HO36020.out GG36.out (by decide)) (fun _ hk => hk.2) (.int .i64 (rd y36021 x13_2))) (fun _ hk => hk.2) (.int .i64 (rd y36018 x13_2))) (fun _ hk => hk.2) (.int .i64 ((rd_T42 l0 (rd x10_1 x11_1)).f0))) (fun _ hk => hk.2) (.int .i64 ((rd_T42 l0 (rd x10_1 x11_1)).f1))) (fun _ hk => ⟨hk.1.1, hk.1.2⟩)⟩
                                                have n3_ : Aside0 (Kd.R (Kd.int .i64) 3 ((((w43.setCell ⟨go36, ((rd x10_1 x11_1) : Int).toNat * 4, none⟩ (.int .i64 (rd y36021 x13_2))).setCell ⟨go36, ((rd x10_1 x11_1) : Int).toNat * 4 + 1, none⟩ (.int .i64 (rd y36018 x13_2))).setCell ⟨go36, ((rd x10_1 x11_1) : Int).toNat * 4 + 2, none⟩ (.int .i64 ((rd_T42 l0 (rd x10_1 x11_1)).f0))).setCell ⟨go36, ((rd x10_1 x11_1) : Int).toNat * 4 + 3, none⟩ (.int .i64 ((rd_T42 l0 (rd x10_1 x11_1)).f1))) w.heap.size (fun k_ => some k_ ≠ (.slice (some ad36014) x10_1.length co19 : Value).ownBlock ∧ some k_ ≠ (.slice (some ad36026) y36018.length co45 : Value).ownBlock) (.slice (some ad36025) y36021.length co44) y36021) := ⟨by (with_reducible repeat (first | apply Kd.R_alloc | apply Kd.R_drewN | apply Kd.R_drew)); exact Kd.R_mono (Kd.R_far (p := ⟨go36, ((rd x10_1 x11_1) : Int).toNat * 4 + 3, none⟩) (Kd.R_far (p := ⟨go36, ((rd x10_1 x11_1) : Int).toNat * 4 + 2, none⟩) (Kd.R_far (p := ⟨go36, ((rd x10_1 x11_1) : Int).toNat * 4 + 1, none⟩) (Kd.R_far (p := ⟨go36, ((rd x10_1 x11_1) : Int).toNat * 4, none⟩) (Kd.R_types HO36023.out GG36.out (by decide)) (fun _ hk => hk.2) (.int .i64 (rd y36021 x13_2))) (fun _ hk => hk.2) (.int .i64 (rd y36018 x13_2))) (fun _ hk => hk.2) (.int .i64 ((rd_T42 l0 (rd x10_1 x11_1)).f0))) (fun _ hk => hk.2) (.int .i64 ((rd_T42 l0 (rd x10_1 x11_1)).f1))) (fun _ hk => ⟨hk.1.1, hk.1.2⟩)⟩
                                                have n4_ : Aside0 (((((w43.setCell ⟨go36, ((rd x10_1 x11_1) : Int).toNat * 4, none⟩ (.int .i64 (rd y36021 x13_2))).setCell ⟨go36, ((rd x10_1 x11_1) : Int).toNat * 4 + 1, none⟩ (.int .i64 (rd y36018 x13_2))).setCell ⟨go36, ((rd x10_1 x11_1) : Int).toNat * 4 + 2, none⟩ (.int .i64 ((rd_T42 l0 (rd x10_1 x11_1)).f0))).setCell ⟨go36, ((rd x10_1 x11_1) : Int).toNat * 4 + 3, none⟩ (.int .i64 ((rd_T42 l0 (rd x10_1 x11_1)).f1))).heap[gb36016]? = some (.cells #[.int .i64 ((rd_T42 l0 (rd x10_1 x11_1)).f0), .int .i64 ((rd_T42 l0 (rd x10_1 x11_1)).f1)] 42 (0, 0))) := ⟨by (with_reducible repeat (first | refine blk_drewN ?_ _ | refine blk_drew ?_ | refine blk_alloc ?_ _)); refine blk_far ?_ (by have h_ := Kd.R_ne HO_6.out BK36016.out (by decide); intro e_; exact h_ (by rw [e_]; rfl)) _; (with_reducible repeat (first | refine blk_drewN ?_ _ | refine blk_drew ?_ | refine blk_alloc ?_ _)); refine blk_far ?_ (by have h_ := Kd.R_ne HO_6.out BK36016.out (by decide); intro e_; exact h_ (by rw [e_]; rfl)) _; (with_reducible repeat (first | refine blk_drewN ?_ _ | refine blk_drew ?_ | refine blk_alloc ?_ _)); refine blk_far ?_ (by have h_ := Kd.R_ne HO_6.out BK36016.out (by decide); intro e_; exact h_ (by rw [e_]; rfl)) _; (with_reducible repeat (first | refine blk_drewN ?_ _ | refine blk_drew ?_ | refine blk_alloc ?_ _)); refine blk_far ?_ (by have h_ := Kd.R_ne HO_6.out BK36016.out (by decide); intro e_; exact h_ (by rw [e_]; rfl)) _; (with_reducible repeat (first | refine blk_drewN ?_ _ | refine blk_drew ?_ | refine blk_alloc ?_ _)); exact BK36016.out⟩
                                                have n5_ : Aside0 (Below w.heap.size w ((((w43.setCell ⟨go36, ((rd x10_1 x11_1) : Int).toNat * 4, none⟩ (.int .i64 (rd y36021 x13_2))).setCell ⟨go36, ((rd x10_1 x11_1) : Int).toNat * 4 + 1, none⟩ (.int .i64 (rd y36018 x13_2))).setCell ⟨go36, ((rd x10_1 x11_1) : Int).toNat * 4 + 2, none⟩ (.int .i64 ((rd_T42 l0 (rd x10_1 x11_1)).f0))).setCell ⟨go36, ((rd x10_1 x11_1) : Int).toNat * 4 + 3, none⟩ (.int .i64 ((rd_T42 l0 (rd x10_1 x11_1)).f1)))) := ⟨by repeat (first | (with_reducible first | exact HB.out | apply below_alloc | apply pw_below_drewN | apply below_drew1 | refine below_set ?_ GB36.out | refine below_set ?_ GB36.out | refine below_set ?_ GB36.out | refine below_set ?_ GB36.out | refine below_set ?_ GE36016.out) | exact HB.out)⟩
                                                (try clear HO_6)
                                                (try clear HO_10)
                                                (try clear HO36020)
                                                (try clear HO36023)
                                                (try clear BK36016)
                                                (try clear HB)
                                                generalize ((((w43.setCell ⟨go36, ((rd x10_1 x11_1) : Int).toNat * 4, none⟩ (.int .i64 (rd y36021 x13_2))).setCell ⟨go36, ((rd x10_1 x11_1) : Int).toNat * 4 + 1, none⟩ (.int .i64 (rd y36018 x13_2))).setCell ⟨go36, ((rd x10_1 x11_1) : Int).toNat * 4 + 2, none⟩ (.int .i64 ((rd_T42 l0 (rd x10_1 x11_1)).f0))).setCell ⟨go36, ((rd x10_1 x11_1) : Int).toNat * 4 + 3, none⟩ (.int .i64 ((rd_T42 l0 (rd x10_1 x11_1)).f1))) = w47 at n0_ n1_ n2_ n3_ n4_ n5_ ⊢
                                                have HO_6 := n0_
                                                have HO_10 := n1_
                                                have HO36020 := n2_
                                                have HO36023 := n3_
                                                have BK36016 := n4_
                                                have HB := n5_
                                                clear n0_ n1_ n2_ n3_ n4_ n5_
                                                have n0_ := Aside0.mk (Kd.R_drew HO_6.out)
                                                have n1_ := Aside0.mk (Kd.R_drew HO_10.out)
                                                have n2_ := Aside0.mk (Kd.R_drew HO36020.out)
                                                have n3_ := Aside0.mk (Kd.R_drew HO36023.out)
                                                have n4_ := Aside0.mk (blk_drew BK36016.out)
                                                have n5_ := Aside0.mk (below_drew1 HB.out)
                                                clear HO_6
                                                clear HO_10
                                                clear HO36020
                                                clear HO36023
                                                clear BK36016
                                                clear HB
                                                have HO_6 := n0_
                                                have HO_10 := n1_
                                                have HO36020 := n2_
                                                have HO36023 := n3_
                                                have BK36016 := n4_
                                                have HB := n5_
                                                clear n0_ n1_ n2_ n3_ n4_ n5_
                                                have p36028 : 0 ≤ (x13_2 : Int) := of_decide_eq_true (by first | (with_reducible assumption) | assumption)
                                                have q36028 : x13_2 < (y36021.length : Int) := of_decide_eq_true (by first | (with_reducible assumption) | assumption)
                                                obtain ⟨ad36028, e36028, hx36028_0⟩ := Kd.at_int (Kd.R_reads' HO36023.out).2.2 x13_2 p36028 q36028
                                                obtain rfl : ad36025 = ad36028 := (by injection e36028)
                                                replace p36028 := eq_true p36028
                                                replace q36028 := eq_true q36028
                                                have p37 : 0 ≤ (x13_2 : Int) := of_decide_eq_true (by first | (with_reducible assumption) | assumption)
                                                have q37 : (x13_2 : Int) < ((y36021.length : Int) : Int) := of_decide_eq_true (by first | (with_reducible assumption) | assumption)
                                                obtain ⟨go37, co37, eo37, gb37, gl37, cl37, HG37⟩ := Kd.R_form HO36023.out (by omega)
                                                (first | cases eo37 | (injection eo37 with ea_ en_ ec_; (first | subst ea_ | (injection ea_ with ea_; subst ea_)); subst ec_; clear en_))
                                                have GB37 := Aside0.mk gb37
                                                have GG37 := Aside0.mk HG37
                                                clear gb37 gl37 HG37
                                                (first | simp only [add_plain] at hx36025_0 | skip)
                                                (first | simp only [add_plain] at hx36028_0 | skip)
                                                obtain ⟨hx37_0, hf37_0⟩ := Kd.R_celln 0 HO36023.out (x13_2 : Int) p37 q37
                                                replace p37 := eq_true p37
                                                replace q37 := eq_true q37
                                                have HP49 := Kd.R_putn HO36023.out (x13_2 : Int) (wrap64 ((rd y36021 x13_2) + ((rd_T42 l0 (rd x10_1 x11_1)).f0)))
                                                rw [← Ny36029.out] at HP49
                                                have HQ49 := Aside0.mk HP49
                                                clear HP49
                                                refine start_ (n := 11) (S := fun w' => w'.cell? ⟨gb36016, 0, none⟩ = some (.int .i64 ((rd_T42 l0 (rd x10_1 x11_1)).f0)) ∧ w'.cell? ⟨gb36016, 1, none⟩ = some (.int .i64 ((rd_T42 l0 (rd x10_1 x11_1)).f1)) ∧ w'.cell? ⟨go37, (x13_2).toNat, none⟩ = some (.int .i64 (rd y36021 x13_2))) (ds := [10]) #[false, false, false, false, false, false, false, false, false, false, false] (by kernel_rfl) rfl rfl ⟨(blk_cell BK36016.out 0).trans rfl, (blk_cell BK36016.out 1).trans rfl, hx36028_0⟩ (fun hHeld => ?_); refine with_tabW spec_PackSprites.tab20 spec_PackSprites.bits20 (fun HT_ HW_ => ?_)
                                                generalize w47.drew = w48 at HO_6 HO_10 HO36020 HO36023 BK36016 HB GG37 HQ46 HQ49 hf37_0 hx36025_0 hx36028_0 hx37_0 hHeld ⊢
                                                refine pure_ (i := 0) (N := some 89) (v := ?_) (a' := ?_) #[true, false, false, false, false, false, false, false, false, false, false] rfl rfl (any_of HT_.out (by kernel_rfl)) (fun _ _ _ h => h) (Or.inl ⟨by rfl, ?_⟩) ?_ ?_
                                                rotate_left
                                                · intro w'
                                                  go_simp
                                                  with_reducible rfl
                                                rotate_left
                                                · simp only [Act.put, List.setIfInBounds_toArray, List.set_cons_zero, List.set_cons_succ, i64_w, i32_w]
                                                  rfl
                                                refine pure_ (i := 1) (N := some 90) (v := ?_) (a' := ?_) #[true, true, false, false, false, false, false, false, false, false, false] rfl rfl (any_of HT_.out (by kernel_rfl)) (fun _ _ _ h => h) (Or.inl ⟨by rfl, ?_⟩) ?_ ?_
                                                rotate_left
                                                · intro w'
                                                  go_simp
                                                  with_reducible rfl
                                                rotate_left
                                                · simp only [Act.put, List.setIfInBounds_toArray, List.set_cons_zero, List.set_cons_succ, i64_w, i32_w]
                                                  rfl
                                                refine pure_ (i := 2) (N := some 91) (v := ?_) (a' := ?_) #[true, true, true, false, false, false, false, false, false, false, false] rfl rfl (any_of HT_.out (by kernel_rfl)) (fun _ _ _ h => h) (Or.inl ⟨by rfl, ?_⟩) ?_ ?_
                                                rotate_left
                                                · intro w'
                                                  go_simp
                                                  with_reducible rfl
                                                rotate_left
                                                · simp only [Act.put, List.setIfInBounds_toArray, List.set_cons_zero, List.set_cons_succ, i64_w, i32_w]
                                                  rfl
                                                refine pure_ (i := 3) (N := some 92) (v := ?_) (a' := ?_) #[true, true, true, true, false, false, false, false, false, false, false] rfl rfl (any_of HT_.out (by kernel_rfl)) (fun _ _ _ h => h) (Or.inl ⟨by rfl, ?_⟩) ?_ ?_
                                                rotate_left
                                                · intro w'
                                                  go_simp
                                                  with_reducible rfl
                                                rotate_left
                                                · simp only [Act.put, List.setIfInBounds_toArray, List.set_cons_zero, List.set_cons_succ, i64_w, i32_w]
                                                  rfl
                                                refine pure_ (i := 4) (N := some 93) (v := ?_) (a' := ?_) #[true, true, true, true, true, false, false, false, false, false, false] rfl rfl (any_of HT_.out (by kernel_rfl)) (fun _ _ _ h => h) (Or.inl ⟨by rfl, ?_⟩) ?_ ?_
                                                rotate_left
                                                · intro w'
                                                  go_simp
                                                  with_reducible rfl
                                                rotate_left
                                                · simp only [Act.put, List.setIfInBounds_toArray, List.set_cons_zero, List.set_cons_succ, i64_w, i32_w]
                                                  rfl
                                                refine pure_ (i := 6) (N := some 95) (v := ?_) (a' := ?_) #[true, true, true, true, true, false, true, false, false, false, false] rfl rfl (any_of HT_.out (by kernel_rfl)) (fun _ _ _ h => h) (Or.inl ⟨by rfl, ?_⟩) ?_ ?_
                                                rotate_left
                                                · intro w'
                                                  go_simp
                                                  with_reducible rfl
                                                rotate_left
                                                · simp only [Act.put, List.setIfInBounds_toArray, List.set_cons_zero, List.set_cons_succ, i64_w, i32_w]
                                                  rfl
                                                refine take_ (i := 5) (N := some 94) (v := ?_) (a' := ?_) #[true, true, true, true, true, true, true, false, false, false, false] rfl rfl (take_ofW HT_.out HW_.out (by kernel_rfl)) (fun _ _ _ h => h) (Or.inl ⟨by rfl, ?_⟩) hHeld ?_ ?_
                                                rotate_left
                                                · rintro w' ⟨s0, s1, s2⟩
                                                  go_simp
                                                  with_reducible rfl
                                                rotate_left
                                                · simp only [Act.put, List.setIfInBounds_toArray, List.set_cons_zero, List.set_cons_succ, i64_w, i32_w]
                                                  rfl
                                                refine take_ (i := 7) (N := some 96) (v := ?_) (a' := ?_) #[true, true, true, true, true, true, true, true, false, false, false] rfl rfl (take_ofW HT_.out HW_.out (by kernel_rfl)) (fun _ _ _ h => h) (Or.inl ⟨by rfl, ?_⟩) hHeld ?_ ?_
                                                rotate_left
                                                · rintro w' ⟨s0, s1, s2⟩
                                                  go_simp
                                                  with_reducible rfl
                                                rotate_left
                                                · simp only [Act.put, List.setIfInBounds_toArray, List.set_cons_zero, List.set_cons_succ, i64_w, i32_w]
                                                  rfl
                                                refine pure_ (i := 8) (N := some 97) (v := ?_) (a' := ?_) #[true, true, true, true, true, true, true, true, true, false, false] rfl rfl (any_of HT_.out (by kernel_rfl)) (fun _ _ _ h => h) (Or.inl ⟨by rfl, ?_⟩) ?_ ?_
                                                rotate_left
                                                · intro w'
                                                  go_simp
                                                  with_reducible rfl
                                                rotate_left
                                                · simp only [Act.put, List.setIfInBounds_toArray, List.set_cons_zero, List.set_cons_succ, i64_w, i32_w]
                                                  rfl
                                                refine pure_ (i := 9) (N := some 98) (v := ?_) (a' := ?_) #[true, true, true, true, true, true, true, true, true, true, false] rfl rfl (any_of HT_.out (by kernel_rfl)) (fun _ _ _ h => h) (Or.inl ⟨by rfl, ?_⟩) ?_ ?_
                                                rotate_left
                                                · intro w'
                                                  go_simp
                                                  with_reducible rfl
                                                rotate_left
                                                · simp only [Act.put, List.setIfInBounds_toArray, List.set_cons_zero, List.set_cons_succ, i64_w, i32_w]
                                                  rfl
                                                refine last_ (i := 10) (N := none) #[true, true, true, true, true, true, true, true, true, true, true] rfl rfl (one_of HT_.out (by kernel_rfl)) (by decide) (fun K hK => ?_)
                                                refine skip_ (w1 := ?_) (by rfl) rfl ?_ ?_
                                                rotate_left
                                                · go_simp
                                                  rfl
                                                refine hK.out _ _ ?_
                                                clear hK K
                                                refine done_ (done_of HT_.out (by kernel_rfl)) ?_
                                                try go_wp2
                                                go_roundg k2
                                                case measure => have := HK1.out; have := HK2.out; omega
                                                case rel => exact ⟨(y36027), (y36018), (y36029), (wrap64 (x9_1 + ((rd_T42 l0 (rd x10_1 x11_1)).f1))), (x10_1), (wrap64 (x11_1 + 1)), (by first | rfl | (simp; done) | (simp [*]; done)), (by first | rfl | (simp; done) | (simp [*]; done)), H', ⟨by have := HK1.out; have := HK2.out; omega⟩, ⟨by (with_reducible repeat (first | apply Kd.R_alloc | apply Kd.R_drewN | apply Kd.R_drew)); exact Kd.R_mono (Kd.R_far (p := ⟨go37, (x13_2 : Int).toNat, none⟩) (Kd.R_types HO_6.out GG37.out (by decide)) (fun _ hk => hk.2) (.int .i64 (wrap64 ((rd y36021 x13_2) + ((rd_T42 l0 (rd x10_1 x11_1)).f0))))) (fun _ hk => trivial)⟩, ⟨by (with_reducible repeat (first | apply Kd.R_alloc | apply Kd.R_drewN | apply Kd.R_drew)); exact Kd.R_mono (Kd.R_far (p := ⟨go37, (x13_2 : Int).toNat, none⟩) (Kd.R_mono HO36020.out (fun k_ hk => (⟨hk, fun e_ => hk.2 (by rw [e_]; rfl)⟩ : _ ∧ k_ ≠ go37))) (fun _ hk => hk.2) (.int .i64 (wrap64 ((rd y36021 x13_2) + ((rd_T42 l0 (rd x10_1 x11_1)).f0))))) (fun _ hk => ⟨hk.1.2, hk.1.1⟩)⟩, ⟨by (with_reducible repeat (first | apply Kd.R_alloc | apply Kd.R_drewN | apply Kd.R_drew)); exact Kd.R_mono HQ49.out (fun _ hk => ⟨hk.2, hk.1⟩)⟩, ⟨by (with_reducible repeat (first | apply Kd.R_alloc | apply Kd.R_drewN | apply Kd.R_drew)); exact Kd.R_mono (Kd.R_far (p := ⟨go37, (x13_2 : Int).toNat, none⟩) (Kd.R_mono HO_10.out (fun k_ hk => (⟨hk, fun e_ => hk.2 (by rw [e_]; rfl)⟩ : _ ∧ k_ ≠ go37))) (fun _ hk => hk.2) (.int .i64 (wrap64 ((rd y36021 x13_2) + ((rd_T42 l0 (rd x10_1 x11_1)).f0))))) (fun _ hk => ⟨hk.1.1, hk.1.2⟩)⟩, ⟨by repeat (first | (with_reducible first | exact HB.out | apply below_alloc | apply pw_below_drewN | apply below_drew1 | refine below_set ?_ GB37.out | refine below_set ?_ GE36016.out) | exact HB.out)⟩⟩
                                              · rw [if_neg c35] at H
                                                exact absurd H (by simp)
                                            · rw [if_neg c34] at H
                                              exact absurd H (by simp)
                                          · rw [if_neg c33] at H
                                            exact absurd H (by simp)
                                        · rw [if_neg c32] at H
                                          exact absurd H (by simp)
                                      · rw [if_neg c31] at H
                                        exact absurd H (by simp)
                                    · rw [if_neg c30] at H
                                      exact absurd H (by simp)
                                  · rw [if_neg c29] at H
                                    exact absurd H (by simp)
                                · rw [if_neg c28] at H
                                  exact absurd H (by simp)
                              · rw [if_neg c27] at H
                                have c27b0 : (x13_2 == (x8_1.length : Int)) = false := beq_eq_false_iff_ne.mpr c27
                                have c27b1 : (x13_2 != (x8_1.length : Int)) = true := bne_iff_ne.mpr c27
                                by_cases c50 : 0 ≤ x11_1
                                · rw [if_pos c50] at H
                                  have c50b0 : decide (0 ≤ x11_1) = true := decide_eq_true c50
                                  clear c50
                                  by_cases c51 : x11_1 < (x10_1.length : Int)
                                  · rw [if_pos c51] at H
                                    have c51b0 : decide (x11_1 < (x10_1.length : Int)) = true := decide_eq_true c51
                                    clear c51
                                    by_cases c52 : x13_2 < (x7_1.length : Int)
                                    · rw [if_pos c52] at H
                                      have c52b0 : decide (x13_2 < (x7_1.length : Int)) = true := decide_eq_true c52
                                      clear c52
                                      by_cases c53 : 0 ≤ (rd x10_1 x11_1)
                                      · rw [if_pos c53] at H
                                        have c53b0 : decide (0 ≤ (rd x10_1 x11_1)) = true := decide_eq_true c53
                                        clear c53
                                        by_cases c54 : (rd x10_1 x11_1) < (x6_1.length : Int)
                                        · rw [if_pos c54] at H
                                          have c54b0 : decide ((rd x10_1 x11_1) < (x6_1.length : Int)) = true := decide_eq_true c54
                                          clear c54
                                          obtain ⟨y36033, hy36033⟩ : ∃ y_ : List (S50), y_ = (x6_1.set ((rd x10_1 x11_1) : Int).toNat (⟨rd x8_1 x13_2, rd x7_1 x13_2, ((rd_T42 l0 (rd x10_1 x11_1)).f0), ((rd_T42 l0 (rd x10_1 x11_1)).f1)⟩ : S50)) := ⟨_, rfl⟩
                                          replace H : (spec_PackSprites.l0 k2 l0 a1 y36033 x7_1 (x8_1.set (x13_2 : Int).toNat (wrap64 ((rd x8_1 x13_2) + ((rd_T42 l0 (rd x10_1 x11_1)).f0)))) x9_1 x10_1 (wrap64 (x11_1 + 1))) = some (r1, r2) := by first | (rw [hy36033]; with_reducible exact H) | (have H2_ := (Option.bind_some _ _).symm.trans H; rw [hy36033]; with_reducible exact H2_) | (have H2_ := (Option.bind_some _ _).symm.trans H; with_reducible exact H2_) | with_reducible exact H | (rw [hy36033]; exact H) | exact H
                                          have Ny36033 := Aside0.mk hy36033
                                          clear hy36033
                                          obtain ⟨y36035, hy36035⟩ : ∃ y_ : List Int, y_ = (x8_1.set (x13_2 : Int).toNat (wrap64 ((rd x8_1 x13_2) + ((rd_T42 l0 (rd x10_1 x11_1)).f0)))) := ⟨_, rfl⟩
                                          replace H : (spec_PackSprites.l0 k2 l0 a1 y36033 x7_1 y36035 x9_1 x10_1 (wrap64 (x11_1 + 1))) = some (r1, r2) := by first | (rw [hy36035]; with_reducible exact H) | (have H2_ := (Option.bind_some _ _).symm.trans H; rw [hy36035]; with_reducible exact H2_) | (have H2_ := (Option.bind_some _ _).symm.trans H; with_reducible exact H2_) | with_reducible exact H | (rw [hy36035]; exact H) | exact H
                                          have Ny36035 := Aside0.mk hy36035
                                          clear hy36035
                                          have H' := Aside0.mk H
                                          clear H
                                          try go_wp2
                                          have n0_ := Aside0.mk (Kd.R_drew HO_6.out)
                                          have n1_ := Aside0.mk (Kd.R_drew HO_7.out)
                                          have n2_ := Aside0.mk (Kd.R_drew HO_8.out)
                                          have n3_ := Aside0.mk (Kd.R_drew HO_10.out)
                                          have n4_ := Aside0.mk (blk_drew BK36016.out)
                                          have n5_ := Aside0.mk (below_drew1 HB.out)
                                          clear HO_6
                                          clear HO_7
                                          clear HO_8
                                          clear HO_10
                                          clear BK36016
                                          clear HB
                                          have HO_6 := n0_
                                          have HO_7 := n1_
                                          have HO_8 := n2_
                                          have HO_10 := n3_
                                          have BK36016 := n4_
                                          have HB := n5_
                                          clear n0_ n1_ n2_ n3_ n4_ n5_
                                          obtain ⟨Ao58, co58, eo58⟩ := Kd.R_slice HO_8.out
                                          (first | subst eo58 | (injection eo58 with f1_ f2_ f3_; have f4_ := f1_.symm; have f5_ := f3_.symm; clear f1_ f2_ f3_; subst f4_; subst f5_))
                                          have p36017 : 0 ≤ (x13_2 : Int) := of_decide_eq_true (by first | (with_reducible assumption) | assumption)
                                          have q36017 : x13_2 < (x8_1.length : Int) := of_decide_eq_true (by first | (with_reducible assumption) | assumption)
                                          obtain ⟨ad36017, e36017, hx36017_0⟩ := Kd.at_int (Kd.R_reads' HO_8.out).2.2 x13_2 p36017 q36017
                                          cases e36017
                                          replace p36017 := eq_true p36017
                                          replace q36017 := eq_true q36017
                                          refine start_ (n := 15) (S := fun w' => w'.cell? ⟨gb36016, 0, none⟩ = some (.int .i64 ((rd_T42 l0 (rd x10_1 x11_1)).f0)) ∧ w'.cell? ⟨gb36016, 1, none⟩ = some (.int .i64 ((rd_T42 l0 (rd x10_1 x11_1)).f1)) ∧ w'.cell? (ad36017.add (x13_2).toNat) = some (.int .i64 (rd x8_1 x13_2))) (ds := []) #[false, false, false, false, false, false, false, false, false, false, false, false, false, false, false] (by kernel_rfl) rfl rfl ⟨(blk_cell BK36016.out 0).trans rfl, (blk_cell BK36016.out 1).trans rfl, hx36017_0⟩ (fun hHeld => ?_); refine with_tabW spec_PackSprites.tab13 spec_PackSprites.bits13 (fun HT_ HW_ => ?_)
                                          generalize wr.drew = w57 at HO_6 HO_7 HO_8 HO_10 BK36016 HB hx36017_0 hHeld ⊢
                                          refine pure_ (i := 0) (N := some 38) (v := ?_) (a' := ?_) #[true, false, false, false, false, false, false, false, false, false, false, false, false, false, false] rfl rfl (any_of HT_.out (by kernel_rfl)) (fun _ _ _ h => h) (Or.inl ⟨by rfl, ?_⟩) ?_ ?_
                                          rotate_left
                                          · intro w'
                                            go_simp
                                            with_reducible rfl
                                          rotate_left
                                          · simp only [Act.put, List.setIfInBounds_toArray, List.set_cons_zero, List.set_cons_succ, i64_w, i32_w]
                                            rfl
                                          refine pure_ (i := 1) (N := some 39) (v := ?_) (a' := ?_) #[true, true, false, false, false, false, false, false, false, false, false, false, false, false, false] rfl rfl (any_of HT_.out (by kernel_rfl)) (fun _ _ _ h => h) (Or.inl ⟨by rfl, ?_⟩) ?_ ?_
                                          rotate_left
                                          · intro w'
                                            go_simp
                                            with_reducible rfl
                                          rotate_left
                                          · simp only [Act.put, List.setIfInBounds_toArray, List.set_cons_zero, List.set_cons_succ, i64_w, i32_w]
                                            rfl
                                          refine pure_ (i := 2) (N := some 40) (v := ?_) (a' := ?_) #[true, true, true, false, false, false, false, false, false, false, false, false, false, false, false] rfl rfl (any_of HT_.out (by kernel_rfl)) (fun _ _ _ h => h) (Or.inl ⟨by rfl, ?_⟩) ?_ ?_
                                          rotate_left
                                          · intro w'
                                            go_simp
                                            with_reducible rfl
                                          rotate_left
                                          · simp only [Act.put, List.setIfInBounds_toArray, List.set_cons_zero, List.set_cons_succ, i64_w, i32_w]
                                            rfl
                                          refine pure_ (i := 3) (N := some 41) (v := ?_) (a' := ?_) #[true, true, true, true, false, false, false, false, false, false, false, false, false, false, false] rfl rfl (any_of HT_.out (by kernel_rfl)) (fun _ _ _ h => h) (Or.inl ⟨by rfl, ?_⟩) ?_ ?_
                                          rotate_left
                                          · intro w'
                                            go_simp
                                            with_reducible rfl
                                          rotate_left
                                          · simp only [Act.put, List.setIfInBounds_toArray, List.set_cons_zero, List.set_cons_succ, i64_w, i32_w]
                                            rfl
                                          refine pure_ (i := 4) (N := some 42) (v := ?_) (a' := ?_) #[true, true, true, true, true, false, false, false, false, false, false, false, false, false, false] rfl rfl (any_of HT_.out (by kernel_rfl)) (fun _ _ _ h => h) (Or.inl ⟨by rfl, ?_⟩) ?_ ?_
                                          rotate_left
                                          · intro w'
                                            go_simp
                                            with_reducible rfl
                                          rotate_left
                                          · simp only [Act.put, List.setIfInBounds_toArray, List.set_cons_zero, List.set_cons_succ, i64_w, i32_w]
                                            rfl
                                          refine pure_ (i := 5) (N := some 43) (v := ?_) (a' := ?_) #[true, true, true, true, true, true, false, false, false, false, false, false, false, false, false] rfl rfl (any_of HT_.out (by kernel_rfl)) (fun _ _ _ h => h) (Or.inl ⟨by rfl, ?_⟩) ?_ ?_
                                          rotate_left
                                          · intro w'
                                            go_simp
                                            with_reducible rfl
                                          rotate_left
                                          · simp only [Act.put, List.setIfInBounds_toArray, List.set_cons_zero, List.set_cons_succ, i64_w, i32_w]
                                            rfl
                                          refine pure_ (i := 6) (N := some 44) (v := ?_) (a' := ?_) #[true, true, true, true, true, true, true, false, false, false, false, false, false, false, false] rfl rfl (any_of HT_.out (by kernel_rfl)) (fun _ _ _ h => h) (Or.inl ⟨by rfl, ?_⟩) ?_ ?_
                                          rotate_left
                                          · intro w'
                                            go_simp
                                            with_reducible rfl
                                          rotate_left
                                          · simp only [Act.put, List.setIfInBounds_toArray, List.set_cons_zero, List.set_cons_succ, i64_w, i32_w]
                                            rfl
                                          refine pure_ (i := 7) (N := some 45) (v := ?_) (a' := ?_) #[true, true, true, true, true, true, true, true, false, false, false, false, false, false, false] rfl rfl (any_of HT_.out (by kernel_rfl)) (fun _ _ _ h => h) (Or.inl ⟨by rfl, ?_⟩) ?_ ?_
                                          rotate_left
                                          · intro w'
                                            go_simp
                                            with_reducible rfl
                                          rotate_left
                                          · simp only [Act.put, List.setIfInBounds_toArray, List.set_cons_zero, List.set_cons_succ, i64_w, i32_w]
                                            rfl
                                          refine pure_ (i := 9) (N := some 47) (v := ?_) (a' := ?_) #[true, true, true, true, true, true, true, true, false, true, false, false, false, false, false] rfl rfl (any_of HT_.out (by kernel_rfl)) (fun _ _ _ h => h) (Or.inl ⟨by rfl, ?_⟩) ?_ ?_
                                          rotate_left
                                          · intro w'
                                            go_simp
                                            with_reducible rfl
                                          rotate_left
                                          · simp only [Act.put, List.setIfInBounds_toArray, List.set_cons_zero, List.set_cons_succ, i64_w, i32_w]
                                            rfl
                                          refine pure_ (i := 12) (N := some 50) (v := ?_) (a' := ?_) #[true, true, true, true, true, true, true, true, false, true, false, false, true, false, false] rfl rfl (any_of HT_.out (by kernel_rfl)) (fun _ _ _ h => h) (Or.inl ⟨by rfl, ?_⟩) ?_ ?_
                                          rotate_left
                                          · intro w'
                                            go_simp
                                            with_reducible rfl
                                          rotate_left
                                          · simp only [Act.put, List.setIfInBounds_toArray, List.set_cons_zero, List.set_cons_succ, i64_w, i32_w]
                                            rfl
                                          refine take_ (i := 8) (N := some 46) (v := ?_) (a' := ?_) #[true, true, true, true, true, true, true, true, true, true, false, false, true, false, false] rfl rfl (take_ofW HT_.out HW_.out (by kernel_rfl)) (fun _ _ _ h => h) (Or.inl ⟨by rfl, ?_⟩) hHeld ?_ ?_
                                          rotate_left
                                          · rintro w' ⟨s0, s1, s2⟩
                                            go_simp
                                            with_reducible rfl
                                          rotate_left
                                          · simp only [Act.put, List.setIfInBounds_toArray, List.set_cons_zero, List.set_cons_succ, i64_w, i32_w]
                                            rfl
                                          refine take_ (i := 10) (N := some 48) (v := ?_) (a' := ?_) #[true, true, true, true, true, true, true, true, true, true, true, false, true, false, false] rfl rfl (take_ofW HT_.out HW_.out (by kernel_rfl)) (fun _ _ _ h => h) (Or.inl ⟨by rfl, ?_⟩) hHeld ?_ ?_
                                          rotate_left
                                          · rintro w' ⟨s0, s1, s2⟩
                                            go_simp
                                            with_reducible rfl
                                          rotate_left
                                          · simp only [Act.put, List.setIfInBounds_toArray, List.set_cons_zero, List.set_cons_succ, i64_w, i32_w]
                                            rfl
                                          refine pure_ (i := 11) (N := some 49) (v := ?_) (a' := ?_) #[true, true, true, true, true, true, true, true, true, true, true, true, true, false, false] rfl rfl (any_of HT_.out (by kernel_rfl)) (fun _ _ _ h => h) (Or.inl ⟨by rfl, ?_⟩) ?_ ?_
                                          rotate_left
                                          · intro w'
                                            go_simp
                                            with_reducible rfl
                                          rotate_left
                                          · simp only [Act.put, List.setIfInBounds_toArray, List.set_cons_zero, List.set_cons_succ, i64_w, i32_w]
                                            rfl
                                          refine pure_ (i := 13) (N := some 51) (v := ?_) (a' := ?_) #[true, true, true, true, true, true, true, true, true, true, true, true, true, true, false] rfl rfl (any_of HT_.out (by kernel_rfl)) (fun _ _ _ h => h) (Or.inl ⟨by rfl, ?_⟩) ?_ ?_
                                          rotate_left
                                          · intro w'
                                            go_simp
                                            with_reducible rfl
                                          rotate_left
                                          · simp only [Act.put, List.setIfInBounds_toArray, List.set_cons_zero, List.set_cons_succ, i64_w, i32_w]
                                            rfl
                                          refine pure_ (i := 14) (N := some 52) (v := ?_) (a' := ?_) #[true, true, true, true, true, true, true, true, true, true, true, true, true, true, true] rfl rfl (any_of HT_.out (by kernel_rfl)) (fun _ _ _ h => h) (Or.inl ⟨by rfl, ?_⟩) ?_ ?_
                                          rotate_left
                                          · intro w'
                                            go_simp
                                            with_reducible rfl
                                          rotate_left
                                          · simp only [Act.put, List.setIfInBounds_toArray, List.set_cons_zero, List.set_cons_succ, i64_w, i32_w]
                                            rfl
                                          refine done_ (done_of HT_.out (by kernel_rfl)) ?_
                                          try go_wp2
                                          have n0_ := Aside0.mk (Kd.R_drew HO_6.out)
                                          have n1_ := Aside0.mk (Kd.R_drew HO_7.out)
                                          have n2_ := Aside0.mk (Kd.R_drew HO_8.out)
                                          have n3_ := Aside0.mk (Kd.R_drew HO_10.out)
                                          have n4_ := Aside0.mk (blk_drew BK36016.out)
                                          have n5_ := Aside0.mk (below_drew1 HB.out)
                                          clear HO_6
                                          clear HO_7
                                          clear HO_8
                                          clear HO_10
                                          clear BK36016
                                          clear HB
                                          have HO_6 := n0_
                                          have HO_7 := n1_
                                          have HO_8 := n2_
                                          have HO_10 := n3_
                                          have BK36016 := n4_
                                          have HB := n5_
                                          clear n0_ n1_ n2_ n3_ n4_ n5_
                                          have p36030 : 0 ≤ (x11_1 : Int) := of_decide_eq_true (by first | (with_reducible assumption) | assumption)
                                          have q36030 : x11_1 < (x10_1.length : Int) := of_decide_eq_true (by first | (with_reducible assumption) | assumption)
                                          obtain ⟨ad36030, e36030, hx36030_0⟩ := Kd.at_int (Kd.R_reads' HO_10.out).2.2 x11_1 p36030 q36030
                                          obtain rfl : ad36014 = ad36030 := (by injection e36030)
                                          replace p36030 := eq_true p36030
                                          replace q36030 := eq_true q36030
                                          have p36031 : 0 ≤ (x13_2 : Int) := of_decide_eq_true (by first | (with_reducible assumption) | assumption)
                                          have q36031 : x13_2 < (x8_1.length : Int) := of_decide_eq_true (by first | (with_reducible assumption) | assumption)
                                          obtain ⟨ad36031, e36031, hx36031_0⟩ := Kd.at_int (Kd.R_reads' HO_8.out).2.2 x13_2 p36031 q36031
                                          obtain rfl : ad36017 = ad36031 := (by injection e36031)
                                          replace p36031 := eq_true p36031
                                          replace q36031 := eq_true q36031
                                          obtain ⟨Ao60, co60, eo60⟩ := Kd.R_slice HO_7.out
                                          (first | subst eo60 | (injection eo60 with f1_ f2_ f3_; have f4_ := f1_.symm; have f5_ := f3_.symm; clear f1_ f2_ f3_; subst f4_; subst f5_))
                                          have p36032 : 0 ≤ (x13_2 : Int) := of_decide_eq_true (by first | (with_reducible assumption) | assumption)
                                          have q36032 : x13_2 < (x7_1.length : Int) := of_decide_eq_true (by first | (with_reducible assumption) | assumption)
                                          obtain ⟨ad36032, e36032, hx36032_0⟩ := Kd.at_int (Kd.R_reads' HO_7.out).2.2 x13_2 p36032 q36032
                                          cases e36032
                                          replace p36032 := eq_true p36032
                                          replace q36032 := eq_true q36032
                                          have p55 : 0 ≤ ((rd x10_1 x11_1) : Int) := of_decide_eq_true (by first | (with_reducible assumption) | assumption)
                                          have q55 : ((rd x10_1 x11_1) : Int) < ((x6_1.length : Int) : Int) := of_decide_eq_true (by first | (with_reducible assumption) | assumption)
                                          obtain ⟨go55, co55, eo55, gb55, gl55, cl55, HG55⟩ := Kd.R_form HO_6.out (by omega)
                                          (first | cases eo55 | (injection eo55 with ea_ en_ ec_; (first | subst ea_ | (injection ea_ with ea_; subst ea_)); subst ec_; clear en_))
                                          have GB55 := Aside0.mk gb55
                                          have GG55 := Aside0.mk HG55
                                          clear gb55 gl55 HG55
                                          obtain ⟨ce55, hcl55, hM55, hcc55, hfr55⟩ := Kd.R_elem HO_6.out z50 ((rd x10_1 x11_1) : Int) p55 q55
                                          obtain rfl := k50_openM hM55
                                          have hx55_0 : World.cell? _ ⟨go55, ((rd x10_1 x11_1) : Int).toNat * 4, none⟩ = some (.int .i64 ((rd_T50 x6_1 (rd x10_1 x11_1)).f0)) := hcc55 0 _ rfl
                                          have hx55_1 : World.cell? _ ⟨go55, ((rd x10_1 x11_1) : Int).toNat * 4 + 1, none⟩ = some (.int .i64 ((rd_T50 x6_1 (rd x10_1 x11_1)).f1)) := hcc55 1 _ rfl
                                          have hx55_2 : World.cell? _ ⟨go55, ((rd x10_1 x11_1) : Int).toNat * 4 + 2, none⟩ = some (.int .i64 ((rd_T50 x6_1 (rd x10_1 x11_1)).f2)) := hcc55 2 _ rfl
                                          have hx55_3 : World.cell? _ ⟨go55, ((rd x10_1 x11_1) : Int).toNat * 4 + 3, none⟩ = some (.int .i64 ((rd_T50 x6_1 (rd x10_1 x11_1)).f3)) := hcc55 3 _ rfl
                                          have hf55_0 : World.frozen? _ ⟨go55, ((rd x10_1 x11_1) : Int).toNat * 4, none⟩ = false := hfr55 0
                                          have hf55_1 : World.frozen? _ ⟨go55, ((rd x10_1 x11_1) : Int).toNat * 4 + 1, none⟩ = false := hfr55 1
                                          have hf55_2 : World.frozen? _ ⟨go55, ((rd x10_1 x11_1) : Int).toNat * 4 + 2, none⟩ = false := hfr55 2
                                          have hf55_3 : World.frozen? _ ⟨go55, ((rd x10_1 x11_1) : Int).toNat * 4 + 3, none⟩ = false := hfr55 3
                                          clear hcl55 hcc55 hfr55 hM55
                                          replace p55 := eq_true p55
                                          replace q55 := eq_true q55
                                          obtain ⟨ce61, hcl61, hM61, hcc61, hfr61⟩ := Kd.R_elem HO_6.out z50 ((rd x10_1 x11_1) : Int) (of_decide_eq_true (by first | (with_reducible assumption) | assumption)) (by have h_ : ((rd x10_1 x11_1) : Int) < ((x6_1.length : Int) : Int) := of_decide_eq_true (by first | (with_reducible assumption) | assumption); first | exact h_ | (have e_ := (Kd.R_reads' HO_6.out).1; omega) | simpa using h_)
                                          obtain rfl := k50_openM hM61
                                          have HP61 := (Kd.R_seg HO_6.out ((rd x10_1 x11_1) : Int) (of_decide_eq_true (by first | (with_reducible assumption) | assumption)) (by have h_ : ((rd x10_1 x11_1) : Int) < ((x6_1.length : Int) : Int) := of_decide_eq_true (by first | (with_reducible assumption) | assumption); first | exact h_ | (have e_ := (Kd.R_reads' HO_6.out).1; omega) | simpa using h_) (seg := [.int .i64 (rd x8_1 x13_2), .int .i64 (rd x7_1 x13_2), .int .i64 ((rd_T42 l0 (rd x10_1 x11_1)).f0), .int .i64 ((rd_T42 l0 (rd x10_1 x11_1)).f1)]) (j := 0) hcl61 hcc61 (show 4 ≤ 4 from by decide) (x' := (⟨rd x8_1 x13_2, rd x7_1 x13_2, ((rd_T42 l0 (rd x10_1 x11_1)).f0), ((rd_T42 l0 (rd x10_1 x11_1)).f1)⟩ : S50)) (k50_mkM _ _ _ (⟨rd x8_1 x13_2, rd x7_1 x13_2, ((rd_T42 l0 (rd x10_1 x11_1)).f0), ((rd_T42 l0 (rd x10_1 x11_1)).f1)⟩ : S50) ) (fun _ hk => hk)).1
                                          rw [← Ny36033.out] at HP61
                                          have HQ61 := Aside0.mk HP61
                                          clear hcl61 hcc61 hfr61 hM61 HP61
                                          refine start_ (n := 20) (S := fun w' => w'.cell? ⟨gb36016, 0, none⟩ = some (.int .i64 ((rd_T42 l0 (rd x10_1 x11_1)).f0)) ∧ w'.cell? ⟨gb36016, 1, none⟩ = some (.int .i64 ((rd_T42 l0 (rd x10_1 x11_1)).f1)) ∧ w'.cell? (ad36014.add (x11_1).toNat) = some (.int .i64 (rd x10_1 x11_1)) ∧ w'.cell? (ad36017.add (x13_2).toNat) = some (.int .i64 (rd x8_1 x13_2)) ∧ w'.cell? (ad36032.add (x13_2).toNat) = some (.int .i64 (rd x7_1 x13_2))) (ds := [19]) #[false, false, false, false, false, false, false, false, false, false, false, false, false, false, false, false, false, false, false, false] (by kernel_rfl) rfl rfl ⟨(blk_cell BK36016.out 0).trans rfl, (blk_cell BK36016.out 1).trans rfl, hx36030_0, hx36031_0, hx36032_0⟩ (fun hHeld => ?_); refine with_tabW spec_PackSprites.tab19 spec_PackSprites.bits19 (fun HT_ HW_ => ?_)
                                          generalize w57.drew = w59 at HO_6 HO_7 HO_8 HO_10 BK36016 HB GG55 HQ61 hf55_0 hf55_1 hf55_2 hf55_3 hx36030_0 hx36031_0 hx36032_0 hx55_0 hx55_1 hx55_2 hx55_3 hHeld ⊢
                                          refine pure_ (i := 0) (N := some 70) (v := ?_) (a' := ?_) #[true, false, false, false, false, false, false, false, false, false, false, false, false, false, false, false, false, false, false, false] rfl rfl (any_of HT_.out (by kernel_rfl)) (fun _ _ _ h => h) (Or.inl ⟨by rfl, ?_⟩) ?_ ?_
                                          rotate_left
                                          · intro w'
                                            go_simp
                                            with_reducible rfl
                                          rotate_left
                                          · simp only [Act.put, List.setIfInBounds_toArray, List.set_cons_zero, List.set_cons_succ, i64_w, i32_w]
                                            rfl
                                          refine pure_ (i := 1) (N := some 71) (v := ?_) (a' := ?_) #[true, true, false, false, false, false, false, false, false, false, false, false, false, false, false, false, false, false, false, false] rfl rfl (any_of HT_.out (by kernel_rfl)) (fun _ _ _ h => h) (Or.inl ⟨by rfl, ?_⟩) ?_ ?_
                                          rotate_left
                                          · intro w'
                                            go_simp
                                            with_reducible rfl
                                          rotate_left
                                          · simp only [Act.put, List.setIfInBounds_toArray, List.set_cons_zero, List.set_cons_succ, i64_w, i32_w]
                                            rfl
                                          refine pure_ (i := 2) (N := some 72) (v := ?_) (a' := ?_) #[true, true, true, false, false, false, false, false, false, false, false, false, false, false, false, false, false, false, false, false] rfl rfl (any_of HT_.out (by kernel_rfl)) (fun _ _ _ h => h) (Or.inl ⟨by rfl, ?_⟩) ?_ ?_
                                          rotate_left
                                          · intro w'
                                            go_simp
                                            with_reducible rfl
                                          rotate_left
                                          · simp only [Act.put, List.setIfInBounds_toArray, List.set_cons_zero, List.set_cons_succ, i64_w, i32_w]
                                            rfl
                                          refine pure_ (i := 3) (N := some 73) (v := ?_) (a' := ?_) #[true, true, true, true, false, false, false, false, false, false, false, false, false, false, false, false, false, false, false, false] rfl rfl (any_of HT_.out (by kernel_rfl)) (fun _ _ _ h => h) (Or.inl ⟨by rfl, ?_⟩) ?_ ?_
                                          rotate_left
                                          · intro w'
                                            go_simp
                                            with_reducible rfl
                                          rotate_left
                                          · simp only [Act.put, List.setIfInBounds_toArray, List.set_cons_zero, List.set_cons_succ, i64_w, i32_w]
                                            rfl
                                          refine pure_ (i := 5) (N := some 75) (v := ?_) (a' := ?_) #[true, true, true, true, false, true, false, false, false, false, false, false, false, false, false, false, false, false, false, false] rfl rfl (any_of HT_.out (by kernel_rfl)) (fun _ _ _ h => h) (Or.inl ⟨by rfl, ?_⟩) ?_ ?_
                                          rotate_left
                                          · intro w'
                                            go_simp
                                            with_reducible rfl
                                          rotate_left
                                          · simp only [Act.put, List.setIfInBounds_toArray, List.set_cons_zero, List.set_cons_succ, i64_w, i32_w]
                                            rfl
                                          refine pure_ (i := 6) (N := some 76) (v := ?_) (a' := ?_) #[true, true, true, true, false, true, true, false, false, false, false, false, false, false, false, false, false, false, false, false] rfl rfl (any_of HT_.out (by kernel_rfl)) (fun _ _ _ h => h) (Or.inl ⟨by rfl, ?_⟩) ?_ ?_
                                          rotate_left
                                          · intro w'
                                            go_simp
                                            with_reducible rfl
                                          rotate_left
                                          · simp only [Act.put, List.setIfInBounds_toArray, List.set_cons_zero, List.set_cons_succ, i64_w, i32_w]
                                            rfl
                                          refine pure_ (i := 7) (N := some 77) (v := ?_) (a' := ?_) #[true, true, true, true, false, true, true, true, false, false, false, false, false, false, false, false, false, false, false, false] rfl rfl (any_of HT_.out (by kernel_rfl)) (fun _ _ _ h => h) (Or.inl ⟨by rfl, ?_⟩) ?_ ?_
                                          rotate_left
                                          · intro w'
                                            go_simp
                                            with_reducible rfl
                                          rotate_left
                                          · simp only [Act.put, List.setIfInBounds_toArray, List.set_cons_zero, List.set_cons_succ, i64_w, i32_w]
                                            rfl
                                          refine pure_ (i := 9) (N := some 79) (v := ?_) (a' := ?_) #[true, true, true, true, false, true, true, true, false, true, false, false, false, false, false, false, false, false, false, false] rfl rfl (any_of HT_.out (by kernel_rfl)) (fun _ _ _ h => h) (Or.inl ⟨by rfl, ?_⟩) ?_ ?_
                                          rotate_left
                                          · intro w'
                                            go_simp
                                            with_reducible rfl
                                          rotate_left
                                          · simp only [Act.put, List.setIfInBounds_toArray, List.set_cons_zero, List.set_cons_succ, i64_w, i32_w]
                                            rfl
                                          refine pure_ (i := 10) (N := some 80) (v := ?_) (a' := ?_) #[true, true, true, true, false, true, true, true, false, true, true, false, false, false, false, false, false, false, false, false] rfl rfl (any_of HT_.out (by kernel_rfl)) (fun _ _ _ h => h) (Or.inl ⟨by rfl, ?_⟩) ?_ ?_
                                          rotate_left
                                          · intro w'
                                            go_simp
                                            with_reducible rfl
                                          rotate_left
                                          · simp only [Act.put, List.setIfInBounds_toArray, List.set_cons_zero, List.set_cons_succ, i64_w, i32_w]
                                            rfl
                                          refine pure_ (i := 11) (N := some 81) (v := ?_) (a' := ?_) #[true, true, true, true, false, true, true, true, false, true, true, true, false, false, false, false, false, false, false, false] rfl rfl (any_of HT_.out (by kernel_rfl)) (fun _ _ _ h => h) (Or.inl ⟨by rfl, ?_⟩) ?_ ?_
                                          rotate_left
                                          · intro w'
                                            go_simp
                                            with_reducible rfl
                                          rotate_left
                                          · simp only [Act.put, List.setIfInBounds_toArray, List.set_cons_zero, List.set_cons_succ, i64_w, i32_w]
                                            rfl
                                          refine pure_ (i := 13) (N := some 83) (v := ?_) (a' := ?_) #[true, true, true, true, false, true, true, true, false, true, true, true, false, true, false, false, false, false, false, false] rfl rfl (any_of HT_.out (by kernel_rfl)) (fun _ _ _ h => h) (Or.inl ⟨by rfl, ?_⟩) ?_ ?_
                                          rotate_left
                                          · intro w'
                                            go_simp
                                            with_reducible rfl
                                          rotate_left
                                          · simp only [Act.put, List.setIfInBounds_toArray, List.set_cons_zero, List.set_cons_succ, i64_w, i32_w]
                                            rfl
                                          refine pure_ (i := 15) (N := some 85) (v := ?_) (a' := ?_) #[true, true, true, true, false, true, true, true, false, true, true, true, false, true, false, true, false, false, false, false] rfl rfl (any_of HT_.out (by kernel_rfl)) (fun _ _ _ h => h) (Or.inl ⟨by rfl, ?_⟩) ?_ ?_
                                          rotate_left
                                          · intro w'
                                            go_simp
                                            with_reducible rfl
                                          rotate_left
                                          · simp only [Act.put, List.setIfInBounds_toArray, List.set_cons_zero, List.set_cons_succ, i64_w, i32_w]
                                            rfl
                                          refine take_ (i := 4) (N := some 74) (v := ?_) (a' := ?_) #[true, true, true, true, true, true, true, true, false, true, true, true, false, true, false, true, false, false, false, false] rfl rfl (take_ofW HT_.out HW_.out (by kernel_rfl)) (fun _ _ _ h => h) (Or.inl ⟨by rfl, ?_⟩) hHeld ?_ ?_
                                          rotate_left
                                          · rintro w' ⟨s0, s1, s2, s3, s4⟩
                                            go_simp
                                            with_reducible rfl
                                          rotate_left
                                          · simp only [Act.put, List.setIfInBounds_toArray, List.set_cons_zero, List.set_cons_succ, i64_w, i32_w]
                                            rfl
                                          refine take_ (i := 8) (N := some 78) (v := ?_) (a' := ?_) #[true, true, true, true, true, true, true, true, true, true, true, true, false, true, false, true, false, false, false, false] rfl rfl (take_ofW HT_.out HW_.out (by kernel_rfl)) (fun _ _ _ h => h) (Or.inl ⟨by rfl, ?_⟩) hHeld ?_ ?_
                                          rotate_left
                                          · rintro w' ⟨s0, s1, s2, s3, s4⟩
                                            go_simp
                                            with_reducible rfl
                                          rotate_left
                                          · simp only [Act.put, List.setIfInBounds_toArray, List.set_cons_zero, List.set_cons_succ, i64_w, i32_w]
                                            rfl
                                          refine take_ (i := 12) (N := some 82) (v := ?_) (a' := ?_) #[true, true, true, true, true, true, true, true, true, true, true, true, true, true, false, true, false, false, false, false] rfl rfl (take_ofW HT_.out HW_.out (by kernel_rfl)) (fun _ _ _ h => h) (Or.inl ⟨by rfl, ?_⟩) hHeld ?_ ?_
                                          rotate_left
                                          · rintro w' ⟨s0, s1, s2, s3, s4⟩
                                            go_simp
                                            with_reducible rfl
                                          rotate_left
                                          · simp only [Act.put, List.setIfInBounds_toArray, List.set_cons_zero, List.set_cons_succ, i64_w, i32_w]
                                            rfl
                                          refine take_ (i := 14) (N := some 84) (v := ?_) (a' := ?_) #[true, true, true, true, true, true, true, true, true, true, true, true, true, true, true, true, false, false, false, false] rfl rfl (take_ofW HT_.out HW_.out (by kernel_rfl)) (fun _ _ _ h => h) (Or.inl ⟨by rfl, ?_⟩) hHeld ?_ ?_
                                          rotate_left
                                          · rintro w' ⟨s0, s1, s2, s3, s4⟩
                                            go_simp
                                            with_reducible rfl
                                          rotate_left
                                          · simp only [Act.put, List.setIfInBounds_toArray, List.set_cons_zero, List.set_cons_succ, i64_w, i32_w]
                                            rfl
                                          refine take_ (i := 16) (N := some 86) (v := ?_) (a' := ?_) #[true, true, true, true, true, true, true, true, true, true, true, true, true, true, true, true, true, false, false, false] rfl rfl (take_ofW HT_.out HW_.out (by kernel_rfl)) (fun _ _ _ h => h) (Or.inl ⟨by rfl, ?_⟩) hHeld ?_ ?_
                                          rotate_left
                                          · rintro w' ⟨s0, s1, s2, s3, s4⟩
                                            go_simp
                                            with_reducible rfl
                                          rotate_left
                                          · simp only [Act.put, List.setIfInBounds_toArray, List.set_cons_zero, List.set_cons_succ, i64_w, i32_w]
                                            rfl
                                          refine pure_ (i := 17) (N := some 87) (v := ?_) (a' := ?_) #[true, true, true, true, true, true, true, true, true, true, true, true, true, true, true, true, true, true, false, false] rfl rfl (any_of HT_.out (by kernel_rfl)) (fun _ _ _ h => h) (Or.inl ⟨by rfl, ?_⟩) ?_ ?_
                                          rotate_left
                                          · intro w'
                                            go_simp
                                            with_reducible rfl
                                          rotate_left
                                          · simp only [Act.put, List.setIfInBounds_toArray, List.set_cons_zero, List.set_cons_succ, i64_w, i32_w]
                                            rfl
                                          refine pure_ (i := 18) (N := some 88) (v := ?_) (a' := ?_) #[true, true, true, true, true, true, true, true, true, true, true, true, true, true, true, true, true, true, true, false] rfl rfl (any_of HT_.out (by kernel_rfl)) (fun _ _ _ h => h) (Or.inl ⟨by rfl, ?_⟩) ?_ ?_
                                          rotate_left
                                          · intro w'
                                            go_simp
                                            with_reducible rfl
                                          rotate_left
                                          · simp only [Act.put, List.setIfInBounds_toArray, List.set_cons_zero, List.set_cons_succ, i64_w, i32_w]
                                            rfl
                                          refine last_ (i := 19) (N := none) #[true, true, true, true, true, true, true, true, true, true, true, true, true, true, true, true, true, true, true, true] rfl rfl (one_of HT_.out (by kernel_rfl)) (by decide) (fun K hK => ?_)
                                          refine skip_ (w1 := ?_) (by rfl) rfl ?_ ?_
                                          rotate_left
                                          · go_simp
                                            rfl
                                          refine hK.out _ _ ?_
                                          clear hK K
                                          refine done_ (done_of HT_.out (by kernel_rfl)) ?_
                                          try go_wp2
                                          have n0_ : Aside0 (Kd.R k50 50 ((((w59.setCell ⟨go55, ((rd x10_1 x11_1) : Int).toNat * 4, none⟩ (.int .i64 (rd x8_1 x13_2))).setCell ⟨go55, ((rd x10_1 x11_1) : Int).toNat * 4 + 1, none⟩ (.int .i64 (rd x7_1 x13_2))).setCell ⟨go55, ((rd x10_1 x11_1) : Int).toNat * 4 + 2, none⟩ (.int .i64 ((rd_T42 l0 (rd x10_1 x11_1)).f0))).setCell ⟨go55, ((rd x10_1 x11_1) : Int).toNat * 4 + 3, none⟩ (.int .i64 ((rd_T42 l0 (rd x10_1 x11_1)).f1))) w.heap.size (fun _ => True) (.slice (some ⟨go55, 0, none⟩) x6_1.length co55) y36033) := ⟨by (with_reducible repeat (first | apply Kd.R_alloc | apply Kd.R_drewN | apply Kd.R_drew)); exact HQ61.out⟩
                                          have n1_ : Aside0 (Kd.R (Kd.int .i64) 3 ((((w59.setCell ⟨go55, ((rd x10_1 x11_1) : Int).toNat * 4, none⟩ (.int .i64 (rd x8_1 x13_2))).setCell ⟨go55, ((rd x10_1 x11_1) : Int).toNat * 4 + 1, none⟩ (.int .i64 (rd x7_1 x13_2))).setCell ⟨go55, ((rd x10_1 x11_1) : Int).toNat * 4 + 2, none⟩ (.int .i64 ((rd_T42 l0 (rd x10_1 x11_1)).f0))).setCell ⟨go55, ((rd x10_1 x11_1) : Int).toNat * 4 + 3, none⟩ (.int .i64 ((rd_T42 l0 (rd x10_1 x11_1)).f1))) w.heap.size (fun k_ => some k_ ≠ (.slice (some ad36017) x8_1.length co58 : Value).ownBlock ∧ some k_ ≠ (.slice (some ad36014) x10_1.length co19 : Value).ownBlock) (.slice (some ad36032) x7_1.length co60) x7_1) := ⟨by (with_reducible repeat (first | apply Kd.R_alloc | apply Kd.R_drewN | apply Kd.R_drew)); exact Kd.R_mono (Kd.R_far (p := ⟨go55, ((rd x10_1 x11_1) : Int).toNat * 4 + 3, none⟩) (Kd.R_far (p := ⟨go55, ((rd x10_1 x11_1) : Int).toNat * 4 + 2, none⟩) (Kd.R_far (p := ⟨go55, ((rd x10_1 x11_1) : Int).toNat * 4 + 1, none⟩) (Kd.R_far (p := ⟨go55, ((rd x10_1 x11_1) : Int).toNat * 4, none⟩) (Kd.R_types HO_7.out GG55.out (by decide)) (fun _ hk => hk.2) (.int .i64 (rd x8_1 x13_2))) (fun _ hk => hk.2) (.int .i64 (rd x7_1 x13_2))) (fun _ hk => hk.2) (.int .i64 ((rd_T42 l0 (rd x10_1 x11_1)).f0))) (fun _ hk => hk.2) (.int .i64 ((rd_T42 l0 (rd x10_1 x11_1)).f1))) (fun _ hk => ⟨hk.1.1, hk.1.2⟩)⟩
                                          have n2_ : Aside0 (Kd.R (Kd.int .i64) 3 ((((w59.setCell ⟨go55, ((rd x10_1 x11_1) : Int).toNat * 4, none⟩ (.int .i64 (rd x8_1 x13_2))).setCell ⟨go55, ((rd x10_1 x11_1) : Int).toNat * 4 + 1, none⟩ (.int .i64 (rd x7_1 x13_2))).setCell ⟨go55, ((rd x10_1 x11_1) : Int).toNat * 4 + 2, none⟩ (.int .i64 ((rd_T42 l0 (rd x10_1 x11_1)).f0))).setCell ⟨go55, ((rd x10_1 x11_1) : Int).toNat * 4 + 3, none⟩ (.int .i64 ((rd_T42 l0 (rd x10_1 x11_1)).f1))) w.heap.size (fun k_ => some k_ ≠ (.slice (some ad36032) x7_1.length co60 : Value).ownBlock ∧ some k_ ≠ (.slice (some ad36014) x10_1.length co19 : Value).ownBlock) (.slice (some ad36017) x8_1.length co58) x8_1) := ⟨by (with_reducible repeat (first | apply Kd.R_alloc | apply Kd.R_drewN | apply Kd.R_drew)); exact Kd.R_mono (Kd.R_far (p := ⟨go55, ((rd x10_1 x11_1) : Int).toNat * 4 + 3, none⟩) (Kd.R_far (p := ⟨go55, ((rd x10_1 x11_1) : Int).toNat * 4 + 2, none⟩) (Kd.R_far (p := ⟨go55, ((rd x10_1 x11_1) : Int).toNat * 4 + 1, none⟩) (Kd.R_far (p := ⟨go55, ((rd x10_1 x11_1) : Int).toNat * 4, none⟩) (Kd.R_types HO_8.out GG55.out (by decide)) (fun _ hk => hk.2) (.int .i64 (rd x8_1 x13_2))) (fun _ hk => hk.2) (.int .i64 (rd x7_1 x13_2))) (fun _ hk => hk.2) (.int .i64 ((rd_T42 l0 (rd x10_1 x11_1)).f0))) (fun _ hk => hk.2) (.int .i64 ((rd_T42 l0 (rd x10_1 x11_1)).f1))) (fun _ hk => ⟨hk.1.1, hk.1.2⟩)⟩
                                          have n3_ : Aside0 (Kd.R (Kd.int .i64) 3 ((((w59.setCell ⟨go55, ((rd x10_1 x11_1) : Int).toNat * 4, none⟩ (.int .i64 (rd x8_1 x13_2))).setCell ⟨go55, ((rd x10_1 x11_1) : Int).toNat * 4 + 1, none⟩ (.int .i64 (rd x7_1 x13_2))).setCell ⟨go55, ((rd x10_1 x11_1) : Int).toNat * 4 + 2, none⟩ (.int .i64 ((rd_T42 l0 (rd x10_1 x11_1)).f0))).setCell ⟨go55, ((rd x10_1 x11_1) : Int).toNat * 4 + 3, none⟩ (.int .i64 ((rd_T42 l0 (rd x10_1 x11_1)).f1))) w.heap.size (fun k_ => some k_ ≠ (.slice (some ad36032) x7_1.length co60 : Value).ownBlock ∧ some k_ ≠ (.slice (some ad36017) x8_1.length co58 : Value).ownBlock) (.slice (some ad36014) x10_1.length co19) x10_1) := ⟨by (with_reducible repeat (first | apply Kd.R_alloc | apply Kd.R_drewN | apply Kd.R_drew)); exact Kd.R_mono (Kd.R_far (p := ⟨go55, ((rd x10_1 x11_1) : Int).toNat * 4 + 3, none⟩) (Kd.R_far (p := ⟨go55, ((rd x10_1 x11_1) : Int).toNat * 4 + 2, none⟩) (Kd.R_far (p := ⟨go55, ((rd x10_1 x11_1) : Int).toNat * 4 + 1, none⟩) (Kd.R_far (p := ⟨go55, ((rd x10_1 x11_1) : Int).toNat * 4, none⟩) (Kd.R_types HO_10.out GG55.out (by decide)) (fun _ hk => hk.2) (.int .i64 (rd x8_1 x13_2))) (fun _ hk => hk.2) (.int .i64 (rd x7_1 x13_2))) (fun _ hk => hk.2) (.int .i64 ((rd_T42 l0 (rd x10_1 x11_1)).f0))) (fun _ hk => hk.2) (.int .i64 ((rd_T42 l0 (rd x10_1 x11_1)).f1))) (fun _ hk => ⟨hk.1.1, hk.1.2⟩)⟩
                                          have n4_ : Aside0 (((((w59.setCell ⟨go55, ((rd x10_1 x11_1) : Int).toNat * 4, none⟩ (.int .i64 (rd x8_1 x13_2))).setCell ⟨go55, ((rd x10_1 x11_1) : Int).toNat * 4 + 1, none⟩ (.int .i64 (rd x7_1 x13_2))).setCell ⟨go55, ((rd x10_1 x11_1) : Int).toNat * 4 + 2, none⟩ (.int .i64 ((rd_T42 l0 (rd x10_1 x11_1)).f0))).setCell ⟨go55, ((rd x10_1 x11_1) : Int).toNat * 4 + 3, none⟩ (.int .i64 ((rd_T42 l0 (rd x10_1 x11_1)).f1))).heap[gb36016]? = some (.cells #[.int .i64 ((rd_T42 l0 (rd x10_1 x11_1)).f0), .int .i64 ((rd_T42 l0 (rd x10_1 x11_1)).f1)] 42 (0, 0))) := ⟨by (with_reducible repeat (first | refine blk_drewN ?_ _ | refine blk_drew ?_ | refine blk_alloc ?_ _)); refine blk_far ?_ (by have h_ := Kd.R_ne HO_6.out BK36016.out (by decide); intro e_; exact h_ (by rw [e_]; rfl)) _; (with_reducible repeat (first | refine blk_drewN ?_ _ | refine blk_drew ?_ | refine blk_alloc ?_ _)); refine blk_far ?_ (by have h_ := Kd.R_ne HO_6.out BK36016.out (by decide); intro e_; exact h_ (by rw [e_]; rfl)) _; (with_reducible repeat (first | refine blk_drewN ?_ _ | refine blk_drew ?_ | refine blk_alloc ?_ _)); refine blk_far ?_ (by have h_ := Kd.R_ne HO_6.out BK36016.out (by decide); intro e_; exact h_ (by rw [e_]; rfl)) _; (with_reducible repeat (first | refine blk_drewN ?_ _ | refine blk_drew ?_ | refine blk_alloc ?_ _)); refine blk_far ?_ (by have h_ := Kd.R_ne HO_6.out BK36016.out (by decide); intro e_; exact h_ (by rw [e_]; rfl)) _; (with_reducible repeat (first | refine blk_drewN ?_ _ | refine blk_drew ?_ | refine blk_alloc ?_ _)); exact BK36016.out⟩
                                          have n5_ : Aside0 (Below w.heap.size w ((((w59.setCell ⟨go55, ((rd x10_1 x11_1) : Int).toNat * 4, none⟩ (.int .i64 (rd x8_1 x13_2))).setCell ⟨go55, ((rd x10_1 x11_1) : Int).toNat * 4 + 1, none⟩ (.int .i64 (rd x7_1 x13_2))).setCell ⟨go55, ((rd x10_1 x11_1) : Int).toNat * 4 + 2, none⟩ (.int .i64 ((rd_T42 l0 (rd x10_1 x11_1)).f0))).setCell ⟨go55, ((rd x10_1 x11_1) : Int).toNat * 4 + 3, none⟩ (.int .i64 ((rd_T42 l0 (rd x10_1 x11_1)).f1)))) := ⟨by repeat (first | (with_reducible first | exact HB.out | apply below_alloc | apply pw_below_drewN | apply below_drew1 | refine below_set ?_ GB55.out | refine below_set ?_ GB55.out | refine below_set ?_ GB55.out | refine below_set ?_ GB55.out | refine below_set ?_ GE36016.out) | exact HB.out)⟩
                                          (try clear HO_6)
                                          (try clear HO_7)
                                          (try clear HO_8)
                                          (try clear HO_10)
                                          (try clear BK36016)
                                          (try clear HB)
                                          generalize ((((w59.setCell ⟨go55, ((rd x10_1 x11_1) : Int).toNat * 4, none⟩ (.int .i64 (rd x8_1 x13_2))).setCell ⟨go55, ((rd x10_1 x11_1) : Int).toNat * 4 + 1, none⟩ (.int .i64 (rd x7_1 x13_2))).setCell ⟨go55, ((rd x10_1 x11_1) : Int).toNat * 4 + 2, none⟩ (.int .i64 ((rd_T42 l0 (rd x10_1 x11_1)).f0))).setCell ⟨go55, ((rd x10_1 x11_1) : Int).toNat * 4 + 3, none⟩ (.int .i64 ((rd_T42 l0 (rd x10_1 x11_1)).f1))) = w62 at n0_ n1_ n2_ n3_ n4_ n5_ ⊢
                                          have HO_6 := n0_
                                          have HO_7 := n1_
                                          have HO_8 := n2_
                                          have HO_10 := n3_
                                          have BK36016 := n4_
                                          have HB := n5_
                                          clear n0_ n1_ n2_ n3_ n4_ n5_
                                          have n0_ := Aside0.mk (Kd.R_drew HO_6.out)
                                          have n1_ := Aside0.mk (Kd.R_drew HO_7.out)
                                          have n2_ := Aside0.mk (Kd.R_drew HO_8.out)
                                          have n3_ := Aside0.mk (Kd.R_drew HO_10.out)
                                          have n4_ := Aside0.mk (blk_drew BK36016.out)
                                          have n5_ := Aside0.mk (below_drew1 HB.out)
                                          clear HO_6
                                          clear HO_7
                                          clear HO_8
                                          clear HO_10
                                          clear BK36016
                                          clear HB
                                          have HO_6 := n0_
                                          have HO_7 := n1_
                                          have HO_8 := n2_
                                          have HO_10 := n3_
                                          have BK36016 := n4_
                                          have HB := n5_
                                          clear n0_ n1_ n2_ n3_ n4_ n5_
                                          have p36034 : 0 ≤ (x13_2 : Int) := of_decide_eq_true (by first | (with_reducible assumption) | assumption)
                                          have q36034 : x13_2 < (x8_1.length : Int) := of_decide_eq_true (by first | (with_reducible assumption) | assumption)
                                          obtain ⟨ad36034, e36034, hx36034_0⟩ := Kd.at_int (Kd.R_reads' HO_8.out).2.2 x13_2 p36034 q36034
                                          obtain rfl : ad36017 = ad36034 := (by injection e36034)
                                          replace p36034 := eq_true p36034
                                          replace q36034 := eq_true q36034
                                          have p56 : 0 ≤ (x13_2 : Int) := of_decide_eq_true (by first | (with_reducible assumption) | assumption)
                                          have q56 : (x13_2 : Int) < ((x8_1.length : Int) : Int) := of_decide_eq_true (by first | (with_reducible assumption) | assumption)
                                          obtain ⟨go56, co56, eo56, gb56, gl56, cl56, HG56⟩ := Kd.R_form HO_8.out (by omega)
                                          (first | cases eo56 | (injection eo56 with ea_ en_ ec_; (first | subst ea_ | (injection ea_ with ea_; subst ea_)); subst ec_; clear en_))
                                          have GB56 := Aside0.mk gb56
                                          have GG56 := Aside0.mk HG56
                                          clear gb56 gl56 HG56
                                          (first | simp only [add_plain] at hx36017_0 | skip)
                                          (first | simp only [add_plain] at hx36031_0 | skip)
                                          (first | simp only [add_plain] at hx36034_0 | skip)
                                          obtain ⟨hx56_0, hf56_0⟩ := Kd.R_celln 0 HO_8.out (x13_2 : Int) p56 q56
                                          replace p56 := eq_true p56
                                          replace q56 := eq_true q56
                                          have HP64 := Kd.R_putn HO_8.out (x13_2 : Int) (wrap64 ((rd x8_1 x13_2) + ((rd_T42 l0 (rd x10_1 x11_1)).f0)))
                                          rw [← Ny36035.out] at HP64
                                          have HQ64 := Aside0.mk HP64
                                          clear HP64
                                          refine start_ (n := 11) (S := fun w' => w'.cell? ⟨gb36016, 0, none⟩ = some (.int .i64 ((rd_T42 l0 (rd x10_1 x11_1)).f0)) ∧ w'.cell? ⟨gb36016, 1, none⟩ = some (.int .i64 ((rd_T42 l0 (rd x10_1 x11_1)).f1)) ∧ w'.cell? ⟨go56, (x13_2).toNat, none⟩ = some (.int .i64 (rd x8_1 x13_2))) (ds := [10]) #[false, false, false, false, false, false, false, false, false, false, false] (by kernel_rfl) rfl rfl ⟨(blk_cell BK36016.out 0).trans rfl, (blk_cell BK36016.out 1).trans rfl, hx36034_0⟩ (fun hHeld => ?_); refine with_tabW spec_PackSprites.tab20 spec_PackSprites.bits20 (fun HT_ HW_ => ?_)
                                          generalize w62.drew = w63 at HO_6 HO_7 HO_8 HO_10 BK36016 HB GG56 HQ61 HQ64 hf56_0 hx36017_0 hx36031_0 hx36034_0 hx56_0 hHeld ⊢
                                          refine pure_ (i := 0) (N := some 89) (v := ?_) (a' := ?_) #[true, false, false, false, false, false, false, false, false, false, false] rfl rfl (any_of HT_.out (by kernel_rfl)) (fun _ _ _ h => h) (Or.inl ⟨by rfl, ?_⟩) ?_ ?_
                                          rotate_left
                                          · intro w'
                                            go_simp
                                            with_reducible rfl
                                          rotate_left
                                          · simp only [Act.put, List.setIfInBounds_toArray, List.set_cons_zero, List.set_cons_succ, i64_w, i32_w]
                                            rfl
                                          refine pure_ (i := 1) (N := some 90) (v := ?_) (a' := ?_) #[true, true, false, false, false, false, false, false, false, false, false] rfl rfl (any_of HT_.out (by kernel_rfl)) (fun _ _ _ h => h) (Or.inl ⟨by rfl, ?_⟩) ?_ ?_
                                          rotate_left
                                          · intro w'
                                            go_simp
                                            with_reducible rfl
                                          rotate_left
                                          · simp only [Act.put, List.setIfInBounds_toArray, List.set_cons_zero, List.set_cons_succ, i64_w, i32_w]
                                            rfl
                                          refine pure_ (i := 2) (N := some 91) (v := ?_) (a' := ?_) #[true, true, true, false, false, false, false, false, false, false, false] rfl rfl (any_of HT_.out (by kernel_rfl)) (fun _ _ _ h => h) (Or.inl ⟨by rfl, ?_⟩) ?_ ?_
                                          rotate_left
                                          · intro w'
                                            go_simp
                                            with_reducible rfl
                                          rotate_left
                                          · simp only [Act.put, List.setIfInBounds_toArray, List.set_cons_zero, List.set_cons_succ, i64_w, i32_w]
                                            rfl
                                          refine pure_ (i := 3) (N := some 92) (v := ?_) (a' := ?_) #[true, true, true, true, false, false, false, false, false, false, false] rfl rfl (any_of HT_.out (by kernel_rfl)) (fun _ _ _ h => h) (Or.inl ⟨by rfl, ?_⟩) ?_ ?_
                                          rotate_left
                                          · intro w'
                                            go_simp
                                            with_reducible rfl
                                          rotate_left
                                          · simp only [Act.put, List.setIfInBounds_toArray, List.set_cons_zero, List.set_cons_succ, i64_w, i32_w]
                                            rfl
                                          refine pure_ (i := 4) (N := some 93) (v := ?_) (a' := ?_) #[true, true, true, true, true, false, false, false, false, false, false] rfl rfl (any_of HT_.out (by kernel_rfl)) (fun _ _ _ h => h) (Or.inl ⟨by rfl, ?_⟩) ?_ ?_
                                          rotate_left
                                          · intro w'
                                            go_simp
                                            with_reducible rfl
                                          rotate_left
                                          · simp only [Act.put, List.setIfInBounds_toArray, List.set_cons_zero, List.set_cons_succ, i64_w, i32_w]
                                            rfl
                                          refine pure_ (i := 6) (N := some 95) (v := ?_) (a' := ?_) #[true, true, true, true, true, false, true, false, false, false, false] rfl rfl (any_of HT_.out (by kernel_rfl)) (fun _ _ _ h => h) (Or.inl ⟨by rfl, ?_⟩) ?_ ?_
                                          rotate_left
                                          · intro w'
                                            go_simp
                                            with_reducible rfl
                                          rotate_left
                                          · simp only [Act.put, List.setIfInBounds_toArray, List.set_cons_zero, List.set_cons_succ, i64_w, i32_w]
                                            rfl
                                          refine take_ (i := 5) (N := some 94) (v := ?_) (a' := ?_) #[true, true, true, true, true, true, true, false, false, false, false] rfl rfl (take_ofW HT_.out HW_.out (by kernel_rfl)) (fun _ _ _ h => h) (Or.inl ⟨by rfl, ?_⟩) hHeld ?_ ?_
                                          rotate_left
                                          · rintro w' ⟨s0, s1, s2⟩
                                            go_simp
                                            with_reducible rfl
                                          rotate_left
                                          · simp only [Act.put, List.setIfInBounds_toArray, List.set_cons_zero, List.set_cons_succ, i64_w, i32_w]
                                            rfl
                                          refine take_ (i := 7) (N := some 96) (v := ?_) (a' := ?_) #[true, true, true, true, true, true, true, true, false, false, false] rfl rfl (take_ofW HT_.out HW_.out (by kernel_rfl)) (fun _ _ _ h => h) (Or.inl ⟨by rfl, ?_⟩) hHeld ?_ ?_
                                          rotate_left
                                          · rintro w' ⟨s0, s1, s2⟩
                                            go_simp
                                            with_reducible rfl
                                          rotate_left
                                          · simp only [Act.put, List.setIfInBounds_toArray, List.set_cons_zero, List.set_cons_succ, i64_w, i32_w]
                                            rfl
                                          refine pure_ (i := 8) (N := some 97) (v := ?_) (a' := ?_) #[true, true, true, true, true, true, true, true, true, false, false] rfl rfl (any_of HT_.out (by kernel_rfl)) (fun _ _ _ h => h) (Or.inl ⟨by rfl, ?_⟩) ?_ ?_
                                          rotate_left
                                          · intro w'
                                            go_simp
                                            with_reducible rfl
                                          rotate_left
                                          · simp only [Act.put, List.setIfInBounds_toArray, List.set_cons_zero, List.set_cons_succ, i64_w, i32_w]
                                            rfl
                                          refine pure_ (i := 9) (N := some 98) (v := ?_) (a' := ?_) #[true, true, true, true, true, true, true, true, true, true, false] rfl rfl (any_of HT_.out (by kernel_rfl)) (fun _ _ _ h => h) (Or.inl ⟨by rfl, ?_⟩) ?_ ?_
                                          rotate_left
                                          · intro w'
                                            go_simp
                                            with_reducible rfl
                                          rotate_left
                                          · simp only [Act.put, List.setIfInBounds_toArray, List.set_cons_zero, List.set_cons_succ, i64_w, i32_w]
                                            rfl
                                          refine last_ (i := 10) (N := none) #[true, true, true, true, true, true, true, true, true, true, true] rfl rfl (one_of HT_.out (by kernel_rfl)) (by decide) (fun K hK => ?_)
                                          refine skip_ (w1 := ?_) (by rfl) rfl ?_ ?_
                                          rotate_left
                                          · go_simp
                                            rfl
                                          refine hK.out _ _ ?_
                                          clear hK K
                                          refine done_ (done_of HT_.out (by kernel_rfl)) ?_
                                          try go_wp2
                                          go_roundg k2
                                          case measure => have := HK1.out; have := HK2.out; omega
                                          case rel => exact ⟨(y36033), (x7_1), (y36035), (x9_1), (x10_1), (wrap64 (x11_1 + 1)), (by first | rfl | (simp; done) | (simp [*]; done)), (by first | rfl | (simp; done) | (simp [*]; done)), H', ⟨by have := HK1.out; have := HK2.out; omega⟩, ⟨by (with_reducible repeat (first | apply Kd.R_alloc | apply Kd.R_drewN | apply Kd.R_drew)); exact Kd.R_mono (Kd.R_far (p := ⟨go56, (x13_2 : Int).toNat, none⟩) (Kd.R_types HO_6.out GG56.out (by decide)) (fun _ hk => hk.2) (.int .i64 (wrap64 ((rd x8_1 x13_2) + ((rd_T42 l0 (rd x10_1 x11_1)).f0))))) (fun _ hk => trivial)⟩, ⟨by (with_reducible repeat (first | apply Kd.R_alloc | apply Kd.R_drewN | apply Kd.R_drew)); exact Kd.R_mono (Kd.R_far (p := ⟨go56, (x13_2 : Int).toNat, none⟩) (Kd.R_mono HO_7.out (fun k_ hk => (⟨hk, fun e_ => hk.1 (by rw [e_]; rfl)⟩ : _ ∧ k_ ≠ go56))) (fun _ hk => hk.2) (.int .i64 (wrap64 ((rd x8_1 x13_2) + ((rd_T42 l0 (rd x10_1 x11_1)).f0))))) (fun _ hk => ⟨hk.1.1, hk.1.2⟩)⟩, ⟨by (with_reducible repeat (first | apply Kd.R_alloc | apply Kd.R_drewN | apply Kd.R_drew)); exact HQ64.out⟩, ⟨by (with_reducible repeat (first | apply Kd.R_alloc | apply Kd.R_drewN | apply Kd.R_drew)); exact Kd.R_mono (Kd.R_far (p := ⟨go56, (x13_2 : Int).toNat, none⟩) (Kd.R_mono HO_10.out (fun k_ hk => (⟨hk, fun e_ => hk.2 (by rw [e_]; rfl)⟩ : _ ∧ k_ ≠ go56))) (fun _ hk => hk.2) (.int .i64 (wrap64 ((rd x8_1 x13_2) + ((rd_T42 l0 (rd x10_1 x11_1)).f0))))) (fun _ hk => ⟨hk.1.1, hk.1.2⟩)⟩, ⟨by repeat (first | (with_reducible first | exact HB.out | apply below_alloc | apply pw_below_drewN | apply below_drew1 | refine below_set ?_ GB56.out | refine below_set ?_ GE36016.out) | exact HB.out)⟩⟩
                                        · rw [if_neg c54] at H
                                          exact absurd H (by simp)
                                      · rw [if_neg c53] at H
                                        exact absurd H (by simp)
                                    · rw [if_neg c52] at H
                                      exact absurd H (by simp)
                                  · rw [if_neg c51] at H
                                    exact absurd H (by simp)
                                · rw [if_neg c50] at H
                                  exact absurd H (by simp)
                          · rw [if_neg c23] at H
                            exact absurd H (by simp)
                        · rw [if_neg c22] at H
                          have c22b0 : decide (x13_2 < (x8_1.length : Int)) = false := decide_eq_false c22
                          clear c22
                          by_cases c65 : x13_2 = (x8_1.length : Int)
                          · rw [if_pos c65] at H
                            have c65b0 : (x13_2 == (x8_1.length : Int)) = true := beq_iff_eq.mpr c65
                            have c65b1 : (x13_2 != (x8_1.length : Int)) = false := bne_eq_false_iff_eq.mpr c65
                            clear c65
                            by_cases c66 : x7_1.length < 17592186044416
                            · rw [if_pos c66] at H
                              have LMc66 := Aside0.mk c66
                              clear c66
                              obtain ⟨y36036, hy36036⟩ : ∃ y_ : List Int, y_ = (x7_1 ++ [x9_1]) := ⟨_, rfl⟩
                              replace H : (if x8_1.length < 17592186044416 then ((some (x8_1 ++ [0] : List Int)).bind fun y36039 => (if 0 ≤ x11_1 then (if x11_1 < (x10_1.length : Int) then (if 0 ≤ x13_2 then (if x13_2 < (y36039.length : Int) then (if x13_2 < (y36036.length : Int) then (if 0 ≤ (rd x10_1 x11_1) then (if (rd x10_1 x11_1) < (x6_1.length : Int) then (spec_PackSprites.l0 k2 l0 a1 (x6_1.set ((rd x10_1 x11_1) : Int).toNat (⟨rd y36039 x13_2, rd y36036 x13_2, ((rd_T42 l0 (rd x10_1 x11_1)).f0), ((rd_T42 l0 (rd x10_1 x11_1)).f1)⟩ : S50)) y36036 (y36039.set (x13_2 : Int).toNat (wrap64 ((rd y36039 x13_2) + ((rd_T42 l0 (rd x10_1 x11_1)).f0)))) (wrap64 (x9_1 + ((rd_T42 l0 (rd x10_1 x11_1)).f1))) x10_1 (wrap64 (x11_1 + 1))) else (none)) else (none)) else (none)) else (none)) else (none)) else (none)) else (none))) else (none)) = some (r1, r2) := by first | (rw [hy36036]; with_reducible exact H) | (have H2_ := (Option.bind_some _ _).symm.trans H; rw [hy36036]; with_reducible exact H2_) | (have H2_ := (Option.bind_some _ _).symm.trans H; with_reducible exact H2_) | with_reducible exact H | (rw [hy36036]; exact H) | exact H
                              have Ny36036 := Aside0.mk hy36036
                              clear hy36036
                              by_cases c67 : x8_1.length < 17592186044416
                              · rw [if_pos c67] at H
                                have LMc67 := Aside0.mk c67
                                clear c67
                                obtain ⟨y36039, hy36039⟩ : ∃ y_ : List Int, y_ = (x8_1 ++ [0]) := ⟨_, rfl⟩
                                replace H : (if 0 ≤ x11_1 then (if x11_1 < (x10_1.length : Int) then (if 0 ≤ x13_2 then (if x13_2 < (y36039.length : Int) then (if x13_2 < (y36036.length : Int) then (if 0 ≤ (rd x10_1 x11_1) then (if (rd x10_1 x11_1) < (x6_1.length : Int) then (spec_PackSprites.l0 k2 l0 a1 (x6_1.set ((rd x10_1 x11_1) : Int).toNat (⟨rd y36039 x13_2, rd y36036 x13_2, ((rd_T42 l0 (rd x10_1 x11_1)).f0), ((rd_T42 l0 (rd x10_1 x11_1)).f1)⟩ : S50)) y36036 (y36039.set (x13_2 : Int).toNat (wrap64 ((rd y36039 x13_2) + ((rd_T42 l0 (rd x10_1 x11_1)).f0)))) (wrap64 (x9_1 + ((rd_T42 l0 (rd x10_1 x11_1)).f1))) x10_1 (wrap64 (x11_1 + 1))) else (none)) else (none)) else (none)) else (none)) else (none)) else (none)) else (none)) = some (r1, r2) := by first | (rw [hy36039]; with_reducible exact H) | (have H2_ := (Option.bind_some _ _).symm.trans H; rw [hy36039]; with_reducible exact H2_) | (have H2_ := (Option.bind_some _ _).symm.trans H; with_reducible exact H2_) | with_reducible exact H | (rw [hy36039]; exact H) | exact H
                                have Ny36039 := Aside0.mk hy36039
                                clear hy36039
                                by_cases c68 : 0 ≤ x11_1
                                · rw [if_pos c68] at H
                                  have c68b0 : decide (0 ≤ x11_1) = true := decide_eq_true c68
                                  clear c68
                                  by_cases c69 : x11_1 < (x10_1.length : Int)
                                  · rw [if_pos c69] at H
                                    have c69b0 : decide (x11_1 < (x10_1.length : Int)) = true := decide_eq_true c69
                                    clear c69
                                    by_cases c70 : 0 ≤ x13_2
                                    · rw [if_pos c70] at H
                                      have c70b0 : decide (0 ≤ x13_2) = true := decide_eq_true c70
                                      clear c70
                                      by_cases c71 : x13_2 < (y36039.length : Int)
                                      · rw [if_pos c71] at H
                                        have c71b0 : decide (x13_2 < (y36039.length : Int)) = true := decide_eq_true c71
                                        clear c71
                                        by_cases c72 : x13_2 < (y36036.length : Int)
                                        · rw [if_pos c72] at H
                                          have c72b0 : decide (x13_2 < (y36036.length : Int)) = true := decide_eq_true c72
                                          clear c72
                                          by_cases c73 : 0 ≤ (rd x10_1 x11_1)
                                          · rw [if_pos c73] at H
                                            have c73b0 : decide (0 ≤ (rd x10_1 x11_1)) = true := decide_eq_true c73
                                            clear c73
                                            by_cases c74 : (rd x10_1 x11_1) < (x6_1.length : Int)
                                            · rw [if_pos c74] at H
                                              have c74b0 : decide ((rd x10_1 x11_1) < (x6_1.length : Int)) = true := decide_eq_true c74
                                              clear c74
                                              obtain ⟨y36045, hy36045⟩ : ∃ y_ : List (S50), y_ = (x6_1.set ((rd x10_1 x11_1) : Int).toNat (⟨rd y36039 x13_2, rd y36036 x13_2, ((rd_T42 l0 (rd x10_1 x11_1)).f0), ((rd_T42 l0 (rd x10_1 x11_1)).f1)⟩ : S50)) := ⟨_, rfl⟩
                                              replace H : (spec_PackSprites.l0 k2 l0 a1 y36045 y36036 (y36039.set (x13_2 : Int).toNat (wrap64 ((rd y36039 x13_2) + ((rd_T42 l0 (rd x10_1 x11_1)).f0)))) (wrap64 (x9_1 + ((rd_T42 l0 (rd x10_1 x11_1)).f1))) x10_1 (wrap64 (x11_1 + 1))) = some (r1, r2) := by first | (rw [hy36045]; with_reducible exact H) | (have H2_ := (Option.bind_some _ _).symm.trans H; rw [hy36045]; with_reducible exact H2_) | (have H2_ := (Option.bind_some _ _).symm.trans H; with_reducible exact H2_) | with_reducible exact H | (rw [hy36045]; exact H) | exact H
                                              have Ny36045 := Aside0.mk hy36045
                                              clear hy36045
                                              obtain ⟨y36047, hy36047⟩ : ∃ y_ : List Int, y_ = (y36039.set (x13_2 : Int).toNat (wrap64 ((rd y36039 x13_2) + ((rd_T42 l0 (rd x10_1 x11_1)).f0)))) := ⟨_, rfl⟩
                                              replace H : (spec_PackSprites.l0 k2 l0 a1 y36045 y36036 y36047 (wrap64 (x9_1 + ((rd_T42 l0 (rd x10_1 x11_1)).f1))) x10_1 (wrap64 (x11_1 + 1))) = some (r1, r2) := by first | (rw [hy36047]; with_reducible exact H) | (have H2_ := (Option.bind_some _ _).symm.trans H; rw [hy36047]; with_reducible exact H2_) | (have H2_ := (Option.bind_some _ _).symm.trans H; with_reducible exact H2_) | with_reducible exact H | (rw [hy36047]; exact H) | exact H
                                              have Ny36047 := Aside0.mk hy36047
                                              clear hy36047
                                              have H' := Aside0.mk H
                                              clear H
                                              try go_wp2
                                              have n0_ := Aside0.mk (Kd.R_drew HO_6.out)
                                              have n1_ := Aside0.mk (Kd.R_drew HO_7.out)
                                              have n2_ := Aside0.mk (Kd.R_drew HO_8.out)
                                              have n3_ := Aside0.mk (Kd.R_drew HO_10.out)
                                              have n4_ := Aside0.mk (blk_drew BK36016.out)
                                              have n5_ := Aside0.mk (below_drew1 HB.out)
                                              clear HO_6
                                              clear HO_7
                                              clear HO_8
                                              clear HO_10
                                              clear BK36016
                                              clear HB
                                              have HO_6 := n0_
                                              have HO_7 := n1_
                                              have HO_8 := n2_
                                              have HO_10 := n3_
                                              have BK36016 := n4_
                                              have HB := n5_
                                              clear n0_ n1_ n2_ n3_ n4_ n5_
                                              obtain ⟨Ao78, co78, eo78⟩ := Kd.R_slice HO_8.out
                                              (first | subst eo78 | (injection eo78 with f1_ f2_ f3_; have f4_ := f1_.symm; have f5_ := f3_.symm; clear f1_ f2_ f3_; subst f4_; subst f5_))
                                              refine start_ (n := 15) (S := fun w' => True) (ds := []) #[false, false, false, false, false, false, false, false, false, false, false, false, false, false, false] (by kernel_rfl) rfl rfl trivial (fun hHeld => ?_); refine with_tabW spec_PackSprites.tab13 spec_PackSprites.bits13 (fun HT_ HW_ => ?_)
                                              generalize wr.drew = w77 at HO_6 HO_7 HO_8 HO_10 BK36016 HB hHeld ⊢
                                              refine pure_ (i := 0) (N := some 38) (v := ?_) (a' := ?_) #[true, false, false, false, false, false, false, false, false, false, false, false, false, false, false] rfl rfl (any_of HT_.out (by kernel_rfl)) (fun _ _ _ h => h) (Or.inl ⟨by rfl, ?_⟩) ?_ ?_
                                              rotate_left
                                              · intro w'
                                                go_simp
                                                with_reducible rfl
                                              rotate_left
                                              · simp only [Act.put, List.setIfInBounds_toArray, List.set_cons_zero, List.set_cons_succ, i64_w, i32_w]
                                                rfl
                                              refine pure_ (i := 1) (N := some 39) (v := ?_) (a' := ?_) #[true, true, false, false, false, false, false, false, false, false, false, false, false, false, false] rfl rfl (any_of HT_.out (by kernel_rfl)) (fun _ _ _ h => h) (Or.inl ⟨by rfl, ?_⟩) ?_ ?_
                                              rotate_left
                                              · intro w'
                                                go_simp
                                                with_reducible rfl
                                              rotate_left
                                              · simp only [Act.put, List.setIfInBounds_toArray, List.set_cons_zero, List.set_cons_succ, i64_w, i32_w]
                                                rfl
                                              refine pure_ (i := 2) (N := some 40) (v := ?_) (a' := ?_) #[true, true, true, false, false, false, false, false, false, false, false, false, false, false, false] rfl rfl (any_of HT_.out (by kernel_rfl)) (fun _ _ _ h => h) (Or.inl ⟨by rfl, ?_⟩) ?_ ?_
                                              rotate_left
                                              · intro w'
                                                go_simp
                                                with_reducible rfl
                                              rotate_left
                                              · simp only [Act.put, List.setIfInBounds_toArray, List.set_cons_zero, List.set_cons_succ, i64_w, i32_w]
                                                rfl
                                              refine pure_ (i := 3) (N := some 41) (v := ?_) (a' := ?_) #[true, true, true, true, false, false, false, false, false, false, false, false, false, false, false] rfl rfl (any_of HT_.out (by kernel_rfl)) (fun _ _ _ h => h) (Or.inl ⟨by rfl, ?_⟩) ?_ ?_
                                              rotate_left
                                              · intro w'
                                                go_simp
                                                with_reducible rfl
                                              rotate_left
                                              · simp only [Act.put, List.setIfInBounds_toArray, List.set_cons_zero, List.set_cons_succ, i64_w, i32_w]
                                                rfl
                                              refine pure_ (i := 4) (N := some 42) (v := ?_) (a' := ?_) #[true, true, true, true, true, false, false, false, false, false, false, false, false, false, false] rfl rfl (any_of HT_.out (by kernel_rfl)) (fun _ _ _ h => h) (Or.inl ⟨by rfl, ?_⟩) ?_ ?_
                                              rotate_left
                                              · intro w'
                                                go_simp
                                                with_reducible rfl
                                              rotate_left
                                              · simp only [Act.put, List.setIfInBounds_toArray, List.set_cons_zero, List.set_cons_succ, i64_w, i32_w]
                                                rfl
                                              refine pure_ (i := 5) (N := some 43) (v := undef) (a' := ?_) #[true, true, true, true, true, true, false, false, false, false, false, false, false, false, false] rfl rfl (any_of HT_.out (by kernel_rfl)) (fun _ _ _ h => h) (Or.inr ⟨by rfl, rfl⟩) ?_ ?_
                                              rotate_left
                                              · simp only [Act.put, List.setIfInBounds_toArray, List.set_cons_zero, List.set_cons_succ, i64_w, i32_w]
                                                rfl
                                              refine pure_ (i := 6) (N := some 44) (v := undef) (a' := ?_) #[true, true, true, true, true, true, true, false, false, false, false, false, false, false, false] rfl rfl (any_of HT_.out (by kernel_rfl)) (fun _ _ _ h => h) (Or.inr ⟨by rfl, rfl⟩) ?_ ?_
                                              rotate_left
                                              · simp only [Act.put, List.setIfInBounds_toArray, List.set_cons_zero, List.set_cons_succ, i64_w, i32_w]
                                                rfl
                                              refine pure_ (i := 7) (N := some 45) (v := undef) (a' := ?_) #[true, true, true, true, true, true, true, true, false, false, false, false, false, false, false] rfl rfl (any_of HT_.out (by kernel_rfl)) (fun _ _ _ h => h) (Or.inr ⟨by rfl, rfl⟩) ?_ ?_
                                              rotate_left
                                              · simp only [Act.put, List.setIfInBounds_toArray, List.set_cons_zero, List.set_cons_succ, i64_w, i32_w]
                                                rfl
                                              refine pure_ (i := 8) (N := some 46) (v := undef) (a' := ?_) #[true, true, true, true, true, true, true, true, true, false, false, false, false, false, false] rfl rfl (any_of HT_.out (by kernel_rfl)) (fun _ _ _ h => h) (Or.inr ⟨by rfl, rfl⟩) ?_ ?_
                                              rotate_left
                                              · simp only [Act.put, List.setIfInBounds_toArray, List.set_cons_zero, List.set_cons_succ, i64_w, i32_w]
                                                rfl
                                              refine pure_ (i := 9) (N := some 47) (v := undef) (a' := ?_) #[true, true, true, true, true, true, true, true, true, true, false, false, false, false, false] rfl rfl (any_of HT_.out (by kernel_rfl)) (fun _ _ _ h => h) (Or.inr ⟨by rfl, rfl⟩) ?_ ?_
                                              rotate_left
                                              · simp only [Act.put, List.setIfInBounds_toArray, List.set_cons_zero, List.set_cons_succ, i64_w, i32_w]
                                                rfl
                                              refine pure_ (i := 10) (N := some 48) (v := undef) (a' := ?_) #[true, true, true, true, true, true, true, true, true, true, true, false, false, false, false] rfl rfl (any_of HT_.out (by kernel_rfl)) (fun _ _ _ h => h) (Or.inr ⟨by rfl, rfl⟩) ?_ ?_
                                              rotate_left
                                              · simp only [Act.put, List.setIfInBounds_toArray, List.set_cons_zero, List.set_cons_succ, i64_w, i32_w]
                                                rfl
                                              refine pure_ (i := 11) (N := some 49) (v := undef) (a' := ?_) #[true, true, true, true, true, true, true, true, true, true, true, true, false, false, false] rfl rfl (any_of HT_.out (by kernel_rfl)) (fun _ _ _ h => h) (Or.inr ⟨by rfl, rfl⟩) ?_ ?_
                                              rotate_left
                                              · simp only [Act.put, List.setIfInBounds_toArray, List.set_cons_zero, List.set_cons_succ, i64_w, i32_w]
                                                rfl
                                              refine pure_ (i := 12) (N := some 50) (v := undef) (a' := ?_) #[true, true, true, true, true, true, true, true, true, true, true, true, true, false, false] rfl rfl (any_of HT_.out (by kernel_rfl)) (fun _ _ _ h => h) (Or.inr ⟨by rfl, rfl⟩) ?_ ?_
                                              rotate_left
                                              · simp only [Act.put, List.setIfInBounds_toArray, List.set_cons_zero, List.set_cons_succ, i64_w, i32_w]
                                                rfl
                                              refine pure_ (i := 13) (N := some 51) (v := undef) (a' := ?_) #[true, true, true, true, true, true, true, true, true, true, true, true, true, true, false] rfl rfl (any_of HT_.out (by kernel_rfl)) (fun _ _ _ h => h) (Or.inr ⟨by rfl, rfl⟩) ?_ ?_
                                              rotate_left
                                              · simp only [Act.put, List.setIfInBounds_toArray, List.set_cons_zero, List.set_cons_succ, i64_w, i32_w]
                                                rfl
                                              refine pure_ (i := 14) (N := some 52) (v := ?_) (a' := ?_) #[true, true, true, true, true, true, true, true, true, true, true, true, true, true, true] rfl rfl (any_of HT_.out (by kernel_rfl)) (fun _ _ _ h => h) (Or.inl ⟨by rfl, ?_⟩) ?_ ?_
                                              rotate_left
                                              · intro w'
                                                go_simp
                                                with_reducible rfl
                                              rotate_left
                                              · simp only [Act.put, List.setIfInBounds_toArray, List.set_cons_zero, List.set_cons_succ, i64_w, i32_w]
                                                rfl
                                              refine done_ (done_of HT_.out (by kernel_rfl)) ?_
                                              try go_wp2_with (first | ((with_reducible refine gate_builtin (b := .append) (xs := #[.tmp 59, .tmp 61]) rfl ?_); at_builtin; refine Kd.R_append (Kd.int .i64) (w0 := w) w.heap.size rfl (.tmp 59) (.tmp 61) 57 3 (.int .i64 0) 8 rfl Try.underlying57 info3 rfl (by decide) (by omega) u7 x7_1 x9_1 [.int .i64 x9_1] (fun k_ => some k_ ≠ (.slice Ao78 x8_1.length co78 : Value).ownBlock ∧ some k_ ≠ (.slice (some ad36014) x10_1.length co19 : Value).ownBlock) (fun _ => False) rfl rfl ?aP (fun _ hk => hk.elim) ?aF ?aO ?aB ?aS ?aL ?_; (case aP => exact rfl); (case aB => exact (by repeat (first | (with_reducible first | exact HB.out | apply below_alloc | apply pw_below_drewN | apply below_drew1 | refine below_set ?_ GE36016.out) | exact HB.out))); (case aF => exact (fun k_ hk => ⟨Kd.fresh' (Kd.R_lt (by (with_reducible repeat (first | apply Kd.R_alloc | apply Kd.R_drewN | apply Kd.R_drew)); exact HO_8.out)) k_ hk, Kd.fresh' (Kd.R_lt (by (with_reducible repeat (first | apply Kd.R_alloc | apply Kd.R_drewN | apply Kd.R_drew)); exact HO_10.out)) k_ hk⟩)); (case aO => exact (by (with_reducible repeat (first | apply Kd.R_alloc | apply Kd.R_drewN | apply Kd.R_drew)); exact HO_7.out)); (case aS => exact (below_size (by repeat (first | (with_reducible first | exact HB.out | apply below_alloc | apply pw_below_drewN | apply below_drew1 | refine below_set ?_ GE36016.out) | exact HB.out)))); (case aL => have := LMc66.out; omega); intro v36037 w79 ho hb hg hat; rw [← Ny36036.out] at ho; have n0_ := Aside0.mk (Kd.R_over' (by (with_reducible repeat (first | apply Kd.R_alloc | apply Kd.R_drewN | apply Kd.R_drew)); exact HO_6.out) (Kd.R_typed (by (with_reducible repeat (first | apply Kd.R_alloc | apply Kd.R_drewN | apply Kd.R_drew)); exact HO_7.out)) (by decide) hg); have n1_ := Aside0.mk (Kd.R_after (ok := (fun k_ => some k_ ≠ (.slice (some ad36014) x10_1.length co19 : Value).ownBlock)) (by (with_reducible repeat (first | apply Kd.R_alloc | apply Kd.R_drewN | apply Kd.R_drew)); exact Kd.R_mono HO_8.out (fun _ hk => ⟨hk.2, hk.1⟩)) hg hat); have n2_ := Aside0.mk (Kd.R_after (ok := (fun k_ => some k_ ≠ (.slice Ao78 x8_1.length co78 : Value).ownBlock)) (by (with_reducible repeat (first | apply Kd.R_alloc | apply Kd.R_drewN | apply Kd.R_drew)); exact Kd.R_mono HO_10.out (fun _ hk => ⟨hk.2, hk.1⟩)) hg hat); have n3_ := Aside0.mk (blk_grown (g := gb36016) (o := .cells #[.int .i64 ((rd_T42 l0 (rd x10_1 x11_1)).f0), .int .i64 ((rd_T42 l0 (rd x10_1 x11_1)).f1)] 42 (0, 0)) (by (with_reducible repeat (first | refine blk_drewN ?_ _ | refine blk_drew ?_ | refine blk_alloc ?_ _)); exact BK36016.out) hg (Kd.R_ne HO_7.out BK36016.out (by decide))); have n4_ := Aside0.mk (hb); have n5_ := Aside0.mk (ho); clear HO_6; clear HO_8; clear HO_10; clear BK36016; clear HB; clear HO_7; have HO_6 := n0_; have HO_8 := n1_; have HO_10 := n2_; have BK36016 := n3_; have HB := n4_; have HO36038 := n5_; clear n0_ n1_ n2_ n3_ n4_ n5_; clear ho hb hg hat) | ((with_reducible refine gate_builtin (b := .append) (xs := #[.tmp 63, .tmp 64]) rfl ?_); at_builtin; refine Kd.R_append (Kd.int .i64) (w0 := w) w.heap.size rfl (.tmp 63) (.tmp 64) 57 3 (.int .i64 0) 8 rfl Try.underlying57 info3 rfl (by decide) (by omega) (.slice Ao78 x8_1.length co78) x8_1 0 [.int .i64 0] (fun k_ => some k_ ≠ (.slice (some ad36014) x10_1.length co19 : Value).ownBlock ∧ some k_ ≠ (v36037 : Value).ownBlock) (fun _ => False) rfl rfl ?aP (fun _ hk => hk.elim) ?aF ?aO ?aB ?aS ?aL ?_; (case aP => exact rfl); (case aB => exact (by repeat (first | (with_reducible first | exact HB.out | apply below_alloc | apply pw_below_drewN | apply below_drew1 | refine below_set ?_ GE36016.out) | exact HB.out))); (case aF => exact (fun k_ hk => ⟨Kd.fresh' (Kd.R_lt (by (with_reducible repeat (first | apply Kd.R_alloc | apply Kd.R_drewN | apply Kd.R_drew)); exact HO_10.out)) k_ hk, Kd.fresh' (Kd.R_lt (by (with_reducible repeat (first | apply Kd.R_alloc | apply Kd.R_drewN | apply Kd.R_drew)); exact HO36038.out)) k_ hk⟩)); (case aO => exact (by (with_reducible repeat (first | apply Kd.R_alloc | apply Kd.R_drewN | apply Kd.R_drew)); exact HO_8.out)); (case aS => exact (below_size (by repeat (first | (with_reducible first | exact HB.out | apply below_alloc | apply pw_below_drewN | apply below_drew1 | refine below_set ?_ GE36016.out) | exact HB.out)))); (case aL => have := LMc67.out; omega); intro v36040 w80 ho hb hg hat; rw [← Ny36039.out] at ho; have n0_ := Aside0.mk (Kd.R_over' (by (with_reducible repeat (first | apply Kd.R_alloc | apply Kd.R_drewN | apply Kd.R_drew)); exact HO_6.out) (Kd.R_typed (by (with_reducible repeat (first | apply Kd.R_alloc | apply Kd.R_drewN | apply Kd.R_drew)); exact HO_8.out)) (by decide) hg); have n1_ := Aside0.mk (Kd.R_after (ok := (fun k_ => some k_ ≠ (v36037 : Value).ownBlock)) (by (with_reducible repeat (first | apply Kd.R_alloc | apply Kd.R_drewN | apply Kd.R_drew)); exact Kd.R_mono HO_10.out (fun _ hk => ⟨hk.2, hk.1⟩)) hg hat); have n2_ := Aside0.mk (blk_grown (g := gb36016) (o := .cells #[.int .i64 ((rd_T42 l0 (rd x10_1 x11_1)).f0), .int .i64 ((rd_T42 l0 (rd x10_1 x11_1)).f1)] 42 (0, 0)) (by (with_reducible repeat (first | refine blk_drewN ?_ _ | refine blk_drew ?_ | refine blk_alloc ?_ _)); exact BK36016.out) hg (Kd.R_ne HO_8.out BK36016.out (by decide))); have n3_ := Aside0.mk (Kd.R_after (ok := (fun k_ => some k_ ≠ (.slice (some ad36014) x10_1.length co19 : Value).ownBlock)) (by (with_reducible repeat (first | apply Kd.R_alloc | apply Kd.R_drewN | apply Kd.R_drew)); exact Kd.R_mono HO36038.out (fun _ hk => ⟨hk.2, hk.1⟩)) hg hat); have n4_ := Aside0.mk (hb); have n5_ := Aside0.mk (ho); clear HO_6; clear HO_10; clear BK36016; clear HO36038; clear HB; clear HO_8; have HO_6 := n0_; have HO_10 := n1_; have BK36016 := n2_; have HO36038 := n3_; have HB := n4_; have HO36041 := n5_; clear n0_ n1_ n2_ n3_ n4_ n5_; clear ho hb hg hat; have hcz81_0 : w80.cell? ⟨gb36016, 0, none⟩ = some (.int .i64 ((rd_T42 l0 (rd x10_1 x11_1)).f0)) := (blk_cell BK36016.out 0).trans rfl; have hcz81_1 : w80.cell? ⟨gb36016, 1, none⟩ = some (.int .i64 ((rd_T42 l0 (rd x10_1 x11_1)).f1)) := (blk_cell BK36016.out 1).trans rfl; have hfz81_0 := blk_frozen BK36016.out 0; have hfz81_1 := blk_frozen BK36016.out 1))
                                              have n0_ := Aside0.mk (Kd.R_drew HO_6.out)
                                              have n1_ := Aside0.mk (Kd.R_drew HO_10.out)
                                              have n2_ := Aside0.mk (Kd.R_drew HO36038.out)
                                              have n3_ := Aside0.mk (Kd.R_drew HO36041.out)
                                              have n4_ := Aside0.mk (blk_drew BK36016.out)
                                              have n5_ := Aside0.mk (below_drew1 HB.out)
                                              clear HO_6
                                              clear HO_10
                                              clear HO36038
                                              clear HO36041
                                              clear BK36016
                                              clear HB
                                              have HO_6 := n0_
                                              have HO_10 := n1_
                                              have HO36038 := n2_
                                              have HO36041 := n3_
                                              have BK36016 := n4_
                                              have HB := n5_
                                              clear n0_ n1_ n2_ n3_ n4_ n5_
                                              have p36042 : 0 ≤ (x11_1 : Int) := of_decide_eq_true (by first | (with_reducible assumption) | assumption)
                                              have q36042 : x11_1 < (x10_1.length : Int) := of_decide_eq_true (by first | (with_reducible assumption) | assumption)
                                              obtain ⟨ad36042, e36042, hx36042_0⟩ := Kd.at_int (Kd.R_reads' HO_10.out).2.2 x11_1 p36042 q36042
                                              obtain rfl : ad36014 = ad36042 := (by injection e36042)
                                              replace p36042 := eq_true p36042
                                              replace q36042 := eq_true q36042
                                              obtain ⟨Ao83, co83, eo83⟩ := Kd.R_slice HO36041.out
                                              (first | subst eo83 | (injection eo83 with f1_ f2_ f3_; have f4_ := f1_.symm; have f5_ := f3_.symm; clear f1_ f2_ f3_; subst f4_; subst f5_))
                                              have p36043 : 0 ≤ (x13_2 : Int) := of_decide_eq_true (by first | (with_reducible assumption) | assumption)
                                              have q36043 : x13_2 < (y36039.length : Int) := of_decide_eq_true (by first | (with_reducible assumption) | assumption)
                                              obtain ⟨ad36043, e36043, hx36043_0⟩ := Kd.at_int (Kd.R_reads' HO36041.out).2.2 x13_2 p36043 q36043
                                              cases e36043
                                              replace p36043 := eq_true p36043
                                              replace q36043 := eq_true q36043
                                              obtain ⟨Ao84, co84, eo84⟩ := Kd.R_slice HO36038.out
                                              (first | subst eo84 | (injection eo84 with f1_ f2_ f3_; have f4_ := f1_.symm; have f5_ := f3_.symm; clear f1_ f2_ f3_; subst f4_; subst f5_))
                                              have p36044 : 0 ≤ (x13_2 : Int) := of_decide_eq_true (by first | (with_reducible assumption) | assumption)
                                              have q36044 : x13_2 < (y36036.length : Int) := of_decide_eq_true (by first | (with_reducible assumption) | assumption)
                                              obtain ⟨ad36044, e36044, hx36044_0⟩ := Kd.at_int (Kd.R_reads' HO36038.out).2.2 x13_2 p36044 q36044
                                              cases e36044
                                              replace p36044 := eq_true p36044
                                              replace q36044 := eq_true q36044
                                              have p75 : 0 ≤ ((rd x10_1 x11_1) : Int) := of_decide_eq_true (by first | (with_reducible assumption) | assumption)
                                              have q75 : ((rd x10_1 x11_1) : Int) < ((x6_1.length : Int) : Int) := of_decide_eq_true (by first | (with_reducible assumption) | assumption)
                                              obtain ⟨go75, co75, eo75, gb75, gl75, cl75, HG75⟩ := Kd.R_form HO_6.out (by omega)
                                              (first | cases eo75 | (injection eo75 with ea_ en_ ec_; (first | subst ea_ | (injection ea_ with ea_; subst ea_)); subst ec_; clear en_))
                                              have GB75 := Aside0.mk gb75
                                              have GG75 := Aside0.mk HG75
                                              clear gb75 gl75 HG75
                                              obtain ⟨ce75, hcl75, hM75, hcc75, hfr75⟩ := Kd.R_elem HO_6.out z50 ((rd x10_1 x11_1) : Int) p75 q75
                                              obtain rfl := k50_openM hM75
                                              have hx75_0 : World.cell? _ ⟨go75, ((rd x10_1 x11_1) : Int).toNat * 4, none⟩ = some (.int .i64 ((rd_T50 x6_1 (rd x10_1 x11_1)).f0)) := hcc75 0 _ rfl
                                              have hx75_1 : World.cell? _ ⟨go75, ((rd x10_1 x11_1) : Int).toNat * 4 + 1, none⟩ = some (.int .i64 ((rd_T50 x6_1 (rd x10_1 x11_1)).f1)) := hcc75 1 _ rfl
                                              have hx75_2 : World.cell? _ ⟨go75, ((rd x10_1 x11_1) : Int).toNat * 4 + 2, none⟩ = some (.int .i64 ((rd_T50 x6_1 (rd x10_1 x11_1)).f2)) := hcc75 2 _ rfl
                                              have hx75_3 : World.cell? _ ⟨go75, ((rd x10_1 x11_1) : Int).toNat * 4 + 3, none⟩ = some (.int .i64 ((rd_T50 x6_1 (rd x10_1 x11_1)).f3)) := hcc75 3 _ rfl
                                              have hf75_0 : World.frozen? _ ⟨go75, ((rd x10_1 x11_1) : Int).toNat * 4, none⟩ = false := hfr75 0
                                              have hf75_1 : World.frozen? _ ⟨go75, ((rd x10_1 x11_1) : Int).toNat * 4 + 1, none⟩ = false := hfr75 1
                                              have hf75_2 : World.frozen? _ ⟨go75, ((rd x10_1 x11_1) : Int).toNat * 4 + 2, none⟩ = false := hfr75 2
                                              have hf75_3 : World.frozen? _ ⟨go75, ((rd x10_1 x11_1) : Int).toNat * 4 + 3, none⟩ = false := hfr75 3
                                              clear hcl75 hcc75 hfr75 hM75
                                              replace p75 := eq_true p75
                                              replace q75 := eq_true q75
                                              obtain ⟨ce85, hcl85, hM85, hcc85, hfr85⟩ := Kd.R_elem HO_6.out z50 ((rd x10_1 x11_1) : Int) (of_decide_eq_true (by first | (with_reducible assumption) | assumption)) (by have h_ : ((rd x10_1 x11_1) : Int) < ((x6_1.length : Int) : Int) := of_decide_eq_true (by first | (with_reducible assumption) | assumption); first | exact h_ | (have e_ := (Kd.R_reads' HO_6.out).1; omega) | simpa using h_)
                                              obtain rfl := k50_openM hM85
                                              have HP85 := (Kd.R_seg HO_6.out ((rd x10_1 x11_1) : Int) (of_decide_eq_true (by first | (with_reducible assumption) | assumption)) (by have h_ : ((rd x10_1 x11_1) : Int) < ((x6_1.length : Int) : Int) := of_decide_eq_true (by first | (with_reducible assumption) | assumption); first | exact h_ | (have e_ := (Kd.R_reads' HO_6.out).1; omega) | simpa using h_) (seg := [.int .i64 (rd y36039 x13_2), .int .i64 (rd y36036 x13_2), .int .i64 ((rd_T42 l0 (rd x10_1 x11_1)).f0), .int .i64 ((rd_T42 l0 (rd x10_1 x11_1)).f1)]) (j := 0) hcl85 hcc85 (show 4 ≤ 4 from by decide) (x' := (⟨rd y36039 x13_2, rd y36036 x13_2, ((rd_T42 l0 (rd x10_1 x11_1)).f0), ((rd_T42 l0 (rd x10_1 x11_1)).f1)⟩ : S50)) (k50_mkM _ _ _ (⟨rd y36039 x13_2, rd y36036 x13_2, ((rd_T42 l0 (rd x10_1 x11_1)).f0), ((rd_T42 l0 (rd x10_1 x11_1)).f1)⟩ : S50) ) (fun _ hk => hk)).1
                                              rw [← Ny36045.out] at HP85
                                              have HQ85 := Aside0.mk HP85
                                              clear hcl85 hcc85 hfr85 hM85 HP85
                                              refine start_ (n := 20) (S := fun w' => w'.cell? ⟨gb36016, 0, none⟩ = some (.int .i64 ((rd_T42 l0 (rd x10_1 x11_1)).f0)) ∧ w'.cell? ⟨gb36016, 1, none⟩ = some (.int .i64 ((rd_T42 l0 (rd x10_1 x11_1)).f1)) ∧ w'.cell? (ad36014.add (x11_1).toNat) = some (.int .i64 (rd x10_1 x11_1)) ∧ w'.cell? (ad36043.add (x13_2).toNat) = some (.int .i64 (rd y36039 x13_2)) ∧ w'.cell? (ad36044.add (x13_2).toNat) = some (.int .i64 (rd y36036 x13_2))) (ds := [19]) #[false, false, false, false, false, false, false, false, false, false, false, false, false, false, false, false, false, false, false, false] (by kernel_rfl) rfl rfl ⟨(blk_cell BK36016.out 0).trans rfl, (blk_cell BK36016.out 1).trans rfl, hx36042_0, hx36043_0, hx36044_0⟩ (fun hHeld => ?_); refine with_tabW spec_PackSprites.tab19 spec_PackSprites.bits19 (fun HT_ HW_ => ?_)
                                              generalize w80.drew = w82 at HO_6 HO_10 HO36038 HO36041 BK36016 HB GG75 HQ85 hf75_0 hf75_1 hf75_2 hf75_3 hx36042_0 hx36043_0 hx36044_0 hx75_0 hx75_1 hx75_2 hx75_3 hHeld ⊢
                                              refine pure_ (i := 0) (N := some 70) (v := ?_) (a' := ?_) #[true, false, false, false, false, false, false, false, false, false, false, false, false, false, false, false, false, false, false, false] rfl rfl (any_of HT_.out (by kernel_rfl)) (fun _ _ _ h => h) (Or.inl ⟨by rfl, ?_⟩) ?_ ?_
                                              rotate_left
                                              · intro w'
                                                go_simp
                                                with_reducible rfl
                                              rotate_left
                                              · simp only [Act.put, List.setIfInBounds_toArray, List.set_cons_zero, List.set_cons_succ, i64_w, i32_w]
                                                rfl
                                              refine pure_ (i := 1) (N := some 71) (v := ?_) (a' := ?_) #[true, true, false, false, false, false, false, false, false, false, false, false, false, false, false, false, false, false, false, false] rfl rfl (any_of HT_.out (by kernel_rfl)) (fun _ _ _ h => h) (Or.inl ⟨by rfl, ?_⟩) ?_ ?_
                                              rotate_left
                                              · intro w'
                                                go_simp
                                                with_reducible rfl
                                              rotate_left
                                              · simp only [Act.put, List.setIfInBounds_toArray, List.set_cons_zero, List.set_cons_succ, i64_w, i32_w]
                                                rfl
                                              refine pure_ (i := 2) (N := some 72) (v := ?_) (a' := ?_) #[true, true, true, false, false, false, false, false, false, false, false, false, false, false, false, false, false, false, false, false] rfl rfl (any_of HT_.out (by kernel_rfl)) (fun _ _ _ h => h) (Or.inl ⟨by rfl, ?_⟩) ?_ ?_
                                              rotate_left
                                              · intro w'
                                                go_simp
                                                with_reducible rfl
                                              rotate_left
                                              · simp only [Act.put, List.setIfInBounds_toArray, List.set_cons_zero, List.set_cons_succ, i64_w, i32_w]
                                                rfl
                                              refine pure_ (i := 3) (N := some 73) (v := ?_) (a' := ?_) #[true, true, true, true, false, false, false, false, false, false, false, false, false, false, false, false, false, false, false, false] rfl rfl (any_of HT_.out (by kernel_rfl)) (fun _ _ _ h => h) (Or.inl ⟨by rfl, ?_⟩) ?_ ?_
                                              rotate_left
                                              · intro w'
                                                go_simp
                                                with_reducible rfl
                                              rotate_left
                                              · simp only [Act.put, List.setIfInBounds_toArray, List.set_cons_zero, List.set_cons_succ, i64_w, i32_w]
                                                rfl
                                              refine pure_ (i := 5) (N := some 75) (v := ?_) (a' := ?_) #[true, true, true, true, false, true, false, false, false, false, false, false, false, false, false, false, false, false, false, false] rfl rfl (any_of HT_.out (by kernel_rfl)) (fun _ _ _ h => h) (Or.inl ⟨by rfl, ?_⟩) ?_ ?_
                                              rotate_left
                                              · intro w'
                                                go_simp
                                                with_reducible rfl
                                              rotate_left
                                              · simp only [Act.put, List.setIfInBounds_toArray, List.set_cons_zero, List.set_cons_succ, i64_w, i32_w]
                                                rfl
                                              refine pure_ (i := 6) (N := some 76) (v := ?_) (a' := ?_) #[true, true, true, true, false, true, true, false, false, false, false, false, false, false, false, false, false, false, false, false] rfl rfl (any_of HT_.out (by kernel_rfl)) (fun _ _ _ h => h) (Or.inl ⟨by rfl, ?_⟩) ?_ ?_
                                              rotate_left
                                              · intro w'
                                                go_simp
                                                with_reducible rfl
                                              rotate_left
                                              · simp only [Act.put, List.setIfInBounds_toArray, List.set_cons_zero, List.set_cons_succ, i64_w, i32_w]
                                                rfl
                                              refine pure_ (i := 7) (N := some 77) (v := ?_) (a' := ?_) #[true, true, true, true, false, true, true, true, false, false, false, false, false, false, false, false, false, false, false, false] rfl rfl (any_of HT_.out (by kernel_rfl)) (fun _ _ _ h => h) (Or.inl ⟨by rfl, ?_⟩) ?_ ?_
                                              rotate_left
                                              · intro w'
                                                go_simp
                                                with_reducible rfl
                                              rotate_left
                                              · simp only [Act.put, List.setIfInBounds_toArray, List.set_cons_zero, List.set_cons_succ, i64_w, i32_w]
                                                rfl
                                              refine pure_ (i := 9) (N := some 79) (v := ?_) (a' := ?_) #[true, true, true, true, false, true, true, true, false, true, false, false, false, false, false, false, false, false, false, false] rfl rfl (any_of HT_.out (by kernel_rfl)) (fun _ _ _ h => h) (Or.inl ⟨by rfl, ?_⟩) ?_ ?_
                                              rotate_left
                                              · intro w'
                                                go_simp
                                                with_reducible rfl
                                              rotate_left
                                              · simp only [Act.put, List.setIfInBounds_toArray, List.set_cons_zero, List.set_cons_succ, i64_w, i32_w]
                                                rfl
                                              refine pure_ (i := 10) (N := some 80) (v := ?_) (a' := ?_) #[true, true, true, true, false, true, true, true, false, true, true, false, false, false, false, false, false, false, false, false] rfl rfl (any_of HT_.out (by kernel_rfl)) (fun _ _ _ h => h) (Or.inl ⟨by rfl, ?_⟩) ?_ ?_
                                              rotate_left
                                              · intro w'
                                                go_simp
                                                with_reducible rfl
                                              rotate_left
                                              · simp only [Act.put, List.setIfInBounds_toArray, List.set_cons_zero, List.set_cons_succ, i64_w, i32_w]
                                                rfl
                                              refine pure_ (i := 11) (N := some 81) (v := ?_) (a' := ?_) #[true, true, true, true, false, true, true, true, false, true, true, true, false, false, false, false, false, false, false, false] rfl rfl (any_of HT_.out (by kernel_rfl)) (fun _ _ _ h => h) (Or.inl ⟨by rfl, ?_⟩) ?_ ?_
                                              rotate_left
                                              · intro w'
                                                go_simp
                                                with_reducible rfl
                                              rotate_left
                                              · simp only [Act.put, List.setIfInBounds_toArray, List.set_cons_zero, List.set_cons_succ, i64_w, i32_w]
                                                rfl
                                              refine pure_ (i := 13) (N := some 83) (v := ?_) (a' := ?_) #[true, true, true, true, false, true, true, true, false, true, true, true, false, true, false, false, false, false, false, false] rfl rfl (any_of HT_.out (by kernel_rfl)) (fun _ _ _ h => h) (Or.inl ⟨by rfl, ?_⟩) ?_ ?_
                                              rotate_left
                                              · intro w'
                                                go_simp
                                                with_reducible rfl
                                              rotate_left
                                              · simp only [Act.put, List.setIfInBounds_toArray, List.set_cons_zero, List.set_cons_succ, i64_w, i32_w]
                                                rfl
                                              refine pure_ (i := 15) (N := some 85) (v := ?_) (a' := ?_) #[true, true, true, true, false, true, true, true, false, true, true, true, false, true, false, true, false, false, false, false] rfl rfl (any_of HT_.out (by kernel_rfl)) (fun _ _ _ h => h) (Or.inl ⟨by rfl, ?_⟩) ?_ ?_
                                              rotate_left
                                              · intro w'
                                                go_simp
                                                with_reducible rfl
                                              rotate_left
                                              · simp only [Act.put, List.setIfInBounds_toArray, List.set_cons_zero, List.set_cons_succ, i64_w, i32_w]
                                                rfl
                                              refine take_ (i := 4) (N := some 74) (v := ?_) (a' := ?_) #[true, true, true, true, true, true, true, true, false, true, true, true, false, true, false, true, false, false, false, false] rfl rfl (take_ofW HT_.out HW_.out (by kernel_rfl)) (fun _ _ _ h => h) (Or.inl ⟨by rfl, ?_⟩) hHeld ?_ ?_
                                              rotate_left
                                              · rintro w' ⟨s0, s1, s2, s3, s4⟩
                                                go_simp
                                                with_reducible rfl
                                              rotate_left
                                              · simp only [Act.put, List.setIfInBounds_toArray, List.set_cons_zero, List.set_cons_succ, i64_w, i32_w]
                                                rfl
                                              refine take_ (i := 8) (N := some 78) (v := ?_) (a' := ?_) #[true, true, true, true, true, true, true, true, true, true, true, true, false, true, false, true, false, false, false, false] rfl rfl (take_ofW HT_.out HW_.out (by kernel_rfl)) (fun _ _ _ h => h) (Or.inl ⟨by rfl, ?_⟩) hHeld ?_ ?_
                                              rotate_left
                                              · rintro w' ⟨s0, s1, s2, s3, s4⟩
                                                go_simp
                                                with_reducible rfl
                                              rotate_left
                                              · simp only [Act.put, List.setIfInBounds_toArray, List.set_cons_zero, List.set_cons_succ, i64_w, i32_w]
                                                rfl
                                              refine take_ (i := 12) (N := some 82) (v := ?_) (a' := ?_) #[true, true, true, true, true, true, true, true, true, true, true, true, true, true, false, true, false, false, false, false] rfl rfl (take_ofW HT_.out HW_.out (by kernel_rfl)) (fun _ _ _ h => h) (Or.inl ⟨by rfl, ?_⟩) hHeld ?_ ?_
                                              rotate_left
                                              · rintro w' ⟨s0, s1, s2, s3, s4⟩
                                                go_simp
                                                with_reducible rfl
                                              rotate_left
                                              · simp only [Act.put, List.setIfInBounds_toArray, List.set_cons_zero, List.set_cons_succ, i64_w, i32_w]
                                                rfl
                                              refine take_ (i := 14) (N := some 84) (v := ?_) (a' := ?_) #[true, true, true, true, true, true, true, true, true, true, true, true, true, true, true, true, false, false, false, false] rfl rfl (take_ofW HT_.out HW_.out (by kernel_rfl)) (fun _ _ _ h => h) (Or.inl ⟨by rfl, ?_⟩) hHeld ?_ ?_
                                              rotate_left
                                              · rintro w' ⟨s0, s1, s2, s3, s4⟩
                                                go_simp
                                                with_reducible rfl
                                              rotate_left
                                              · simp only [Act.put, List.setIfInBounds_toArray, List.set_cons_zero, List.set_cons_succ, i64_w, i32_w]
                                                rfl
                                              refine take_ (i := 16) (N := some 86) (v := ?_) (a' := ?_) #[true, true, true, true, true, true, true, true, true, true, true, true, true, true, true, true, true, false, false, false] rfl rfl (take_ofW HT_.out HW_.out (by kernel_rfl)) (fun _ _ _ h => h) (Or.inl ⟨by rfl, ?_⟩) hHeld ?_ ?_
                                              rotate_left
                                              · rintro w' ⟨s0, s1, s2, s3, s4⟩
                                                go_simp
                                                with_reducible rfl
                                              rotate_left
                                              · simp only [Act.put, List.setIfInBounds_toArray, List.set_cons_zero, List.set_cons_succ, i64_w, i32_w]
                                                rfl
                                              refine pure_ (i := 17) (N := some 87) (v := ?_) (a' := ?_) #[true, true, true, true, true, true, true, true, true, true, true, true, true, true, true, true, true, true, false, false] rfl rfl (any_of HT_.out (by kernel_rfl)) (fun _ _ _ h => h) (Or.inl ⟨by rfl, ?_⟩) ?_ ?_
                                              rotate_left
                                              · intro w'
                                                go_simp
                                                with_reducible rfl
                                              rotate_left
                                              · simp only [Act.put, List.setIfInBounds_toArray, List.set_cons_zero, List.set_cons_succ, i64_w, i32_w]
                                                rfl
                                              refine pure_ (i := 18) (N := some 88) (v := ?_) (a' := ?_) #[true, true, true, true, true, true, true, true, true, true, true, true, true, true, true, true, true, true, true, false] rfl rfl (any_of HT_.out (by kernel_rfl)) (fun _ _ _ h => h) (Or.inl ⟨by rfl, ?_⟩) ?_ ?_
                                              rotate_left
                                              · intro w'
                                                go_simp
                                                with_reducible rfl
                                              rotate_left
                                              · simp only [Act.put, List.setIfInBounds_toArray, List.set_cons_zero, List.set_cons_succ, i64_w, i32_w]
                                                rfl
                                              refine last_ (i := 19) (N := none) #[true, true, true, true, true, true, true, true, true, true, true, true, true, true, true, true, true, true, true, true] rfl rfl (one_of HT_.out (by kernel_rfl)) (by decide) (fun K hK => ?_)
                                              refine skip_ (w1 := ?_) (by rfl) rfl ?_ ?_
                                              rotate_left
                                              · go_simp
                                                rfl
                                              refine hK.out _ _ ?_
                                              clear hK K
                                              refine done_ (done_of HT_.out (by kernel_rfl)) ?_
                                              try go_wp2
                                              have n0_ : Aside0 (Kd.R k50 50 ((((w82.setCell ⟨go75, ((rd x10_1 x11_1) : Int).toNat * 4, none⟩ (.int .i64 (rd y36039 x13_2))).setCell ⟨go75, ((rd x10_1 x11_1) : Int).toNat * 4 + 1, none⟩ (.int .i64 (rd y36036 x13_2))).setCell ⟨go75, ((rd x10_1 x11_1) : Int).toNat * 4 + 2, none⟩ (.int .i64 ((rd_T42 l0 (rd x10_1 x11_1)).f0))).setCell ⟨go75, ((rd x10_1 x11_1) : Int).toNat * 4 + 3, none⟩ (.int .i64 ((rd_T42 l0 (rd x10_1 x11_1)).f1))) w.heap.size (fun _ => True) (.slice (some ⟨go75, 0, none⟩) x6_1.length co75) y36045) := ⟨by (with_reducible repeat (first | apply Kd.R_alloc | apply Kd.R_drewN | apply Kd.R_drew)); exact HQ85.out⟩
                                              have n1_ : Aside0 (Kd.R (Kd.int .i64) 3 ((((w82.setCell ⟨go75, ((rd x10_1 x11_1) : Int).toNat * 4, none⟩ (.int .i64 (rd y36039 x13_2))).setCell ⟨go75, ((rd x10_1 x11_1) : Int).toNat * 4 + 1, none⟩ (.int .i64 (rd y36036 x13_2))).setCell ⟨go75, ((rd x10_1 x11_1) : Int).toNat * 4 + 2, none⟩ (.int .i64 ((rd_T42 l0 (rd x10_1 x11_1)).f0))).setCell ⟨go75, ((rd x10_1 x11_1) : Int).toNat * 4 + 3, none⟩ (.int .i64 ((rd_T42 l0 (rd x10_1 x11_1)).f1))) w.heap.size (fun k_ => some k_ ≠ (.slice (some ad36044) y36036.length co84 : Value).ownBlock ∧ some k_ ≠ (.slice (some ad36043) y36039.length co83 : Value).ownBlock) (.slice (some ad36014) x10_1.length co19) x10_1) := ⟨by (with_reducible repeat (first | apply Kd.R_alloc | apply Kd.R_drewN | apply Kd.R_drew)); exact Kd.R_mono (Kd.R_far (p := ⟨go75, ((rd x10_1 x11_1) : Int).toNat * 4 + 3, none⟩) (Kd.R_far (p := ⟨go75, ((rd x10_1 x11_1) : Int).toNat * 4 + 2, none⟩) (Kd.R_far (p := ⟨go75, ((rd x10_1 x11_1) : Int).toNat * 4 + 1, none⟩) (Kd.R_far (p := ⟨go75, ((rd x10_1 x11_1) : Int).toNat * 4, none⟩) (Kd.R_types HO_10.out GG75.out (by decide)) (fun _ hk => hk.2) (.int .i64 (rd y36039 x13_2))) (fun _ hk => hk.2) (.int .i64 (rd y36036 x13_2))) (fun _ hk => hk.2) (.int .i64 ((rd_T42 l0 (rd x10_1 x11_1)).f0))) (fun _ hk => hk.2) (.int .i64 ((rd_T42 l0 (rd x10_1 x11_1)).f1))) (fun _ hk => ⟨hk.1.1, hk.1.2⟩)⟩
                                              have n2_ : Aside0 (Kd.R (Kd.int .i64) 3 ((((w82.setCell ⟨go75, ((rd x10_1 x11_1) : Int).toNat * 4, none⟩ (.int .i64 (rd y36039 x13_2))).setCell ⟨go75, ((rd x10_1 x11_1) : Int).toNat * 4 + 1, none⟩ (.int .i64 (rd y36036 x13_2))).setCell ⟨go75, ((rd x10_1 x11_1) : Int).toNat * 4 + 2, none⟩ (.int .i64 ((rd_T42 l0 (rd x10_1 x11_1)).f0))).setCell ⟨go75, ((rd x10_1 x11_1) : Int).toNat * 4 + 3, none⟩ (.int .i64 ((rd_T42 l0 (rd x10_1 x11_1)).f1))) w.heap.size (fun k_ => some k_ ≠ (.slice (some ad36014) x10_1.length co19 : Value).ownBlock ∧ some k_ ≠ (.slice (some ad36043) y36039.length co83 : Value).ownBlock) (.slice (some ad36044) y36036.length co84) y36036) := ⟨by (with_reducible repeat (first | apply Kd.R_alloc | apply Kd.R_drewN | apply Kd.R_drew)); exact Kd.R_mono (Kd.R_far (p := ⟨go75, ((rd x10_1 x11_1) : Int).toNat * 4 + 3, none⟩) (Kd.R_far (p := ⟨go75, ((rd x10_1 x11_1) : Int).toNat * 4 + 2, none⟩) (Kd.R_far (p := ⟨go75, ((rd x10_1 x11_1) : Int).toNat * 4 + 1, none⟩) (Kd.R_far (p := ⟨go75, ((rd x10_1 x11_1) : Int).toNat * 4, none⟩) (Kd.R_types HO36038.out GG75.out (by decide)) (fun _ hk => hk.2) (.int .i64 (rd y36039 x13_2))) (fun _ hk => hk.2) (.int .i64 (rd y36036 x13_2))) (fun _ hk => hk.2) (.int .i64 ((rd_T42 l0 (rd x10_1 x11_1)).f0))) (fun _ hk => hk.2) (.int .i64 ((rd_T42 l0 (rd x10_1 x11_1)).f1))) (fun _ hk => ⟨hk.1.1, hk.1.2⟩)⟩
                                              have n3_ : Aside0 (Kd.R (Kd.int .i64) 3 ((((w82.setCell ⟨go75, ((rd x10_1 x11_1) : Int).toNat * 4, none⟩ (.int .i64 (rd y36039 x13_2))).setCell ⟨go75, ((rd x10_1 x11_1) : Int).toNat * 4 + 1, none⟩ (.int .i64 (rd y36036 x13_2))).setCell ⟨go75, ((rd x10_1 x11_1) : Int).toNat * 4 + 2, none⟩ (.int .i64 ((rd_T42 l0 (rd x10_1 x11_1)).f0))).setCell ⟨go75, ((rd x10_1 x11_1) : Int).toNat * 4 + 3, none⟩ (.int .i64 ((rd_T42 l0 (rd x10_1 x11_1)).f1))) w.heap.size (fun k_ => some k_ ≠ (.slice (some ad36014) x10_1.length co19 : Value).ownBlock ∧ some k_ ≠ (.slice (some ad36044) y36036.length co84 : Value).ownBlock) (.slice (some ad36043) y36039.length co83) y36039) := ⟨by (with_reducible repeat (first | apply Kd.R_alloc | apply Kd.R_drewN | apply Kd.R_drew)); exact Kd.R_mono (Kd.R_far (p := ⟨go75, ((rd x10_1 x11_1) : Int).toNat * 4 + 3, none⟩) (Kd.R_far (p := ⟨go75, ((rd x10_1 x11_1) : Int).toNat * 4 + 2, none⟩) (Kd.R_far (p := ⟨go75, ((rd x10_1 x11_1) : Int).toNat * 4 + 1, none⟩) (Kd.R_far (p := ⟨go75, ((rd x10_1 x11_1) : Int).toNat * 4, none⟩) (Kd.R_types HO36041.out GG75.out (by decide)) (fun _ hk => hk.2) (.int .i64 (rd y36039 x13_2))) (fun _ hk => hk.2) (.int .i64 (rd y36036 x13_2))) (fun _ hk => hk.2) (.int .i64 ((rd_T42 l0 (rd x10_1 x11_1)).f0))) (fun _ hk => hk.2) (.int .i64 ((rd_T42 l0 (rd x10_1 x11_1)).f1))) (fun _ hk => ⟨hk.1.1, hk.1.2⟩)⟩
                                              have n4_ : Aside0 (((((w82.setCell ⟨go75, ((rd x10_1 x11_1) : Int).toNat * 4, none⟩ (.int .i64 (rd y36039 x13_2))).setCell ⟨go75, ((rd x10_1 x11_1) : Int).toNat * 4 + 1, none⟩ (.int .i64 (rd y36036 x13_2))).setCell ⟨go75, ((rd x10_1 x11_1) : Int).toNat * 4 + 2, none⟩ (.int .i64 ((rd_T42 l0 (rd x10_1 x11_1)).f0))).setCell ⟨go75, ((rd x10_1 x11_1) : Int).toNat * 4 + 3, none⟩ (.int .i64 ((rd_T42 l0 (rd x10_1 x11_1)).f1))).heap[gb36016]? = some (.cells #[.int .i64 ((rd_T42 l0 (rd x10_1 x11_1)).f0), .int .i64 ((rd_T42 l0 (rd x10_1 x11_1)).f1)] 42 (0, 0))) := ⟨by (with_reducible repeat (first | refine blk_drewN ?_ _ | refine blk_drew ?_ | refine blk_alloc ?_ _)); refine blk_far ?_ (by have h_ := Kd.R_ne HO_6.out BK36016.out (by decide); intro e_; exact h_ (by rw [e_]; rfl)) _; (with_reducible repeat (first | refine blk_drewN ?_ _ | refine blk_drew ?_ | refine blk_alloc ?_ _)); refine blk_far ?_ (by have h_ := Kd.R_ne HO_6.out BK36016.out (by decide); intro e_; exact h_ (by rw [e_]; rfl)) _; (with_reducible repeat (first | refine blk_drewN ?_ _ | refine blk_drew ?_ | refine blk_alloc ?_ _)); refine blk_far ?_ (by have h_ := Kd.R_ne HO_6.out BK36016.out (by decide); intro e_; exact h_ (by rw [e_]; rfl)) _; (with_reducible repeat (first | refine blk_drewN ?_ _ | refine blk_drew ?_ | refine blk_alloc ?_ _)); refine blk_far ?_ (by have h_ := Kd.R_ne HO_6.out BK36016.out (by decide); intro e_; exact h_ (by rw [e_]; rfl)) _; (with_reducible repeat (first | refine blk_drewN ?_ _ | refine blk_drew ?_ | refine blk_alloc ?_ _)); exact BK36016.out⟩
                                              have n5_ : Aside0 (Below w.heap.size w ((((w82.setCell ⟨go75, ((rd x10_1 x11_1) : Int).toNat * 4, none⟩ (.int .i64 (rd y36039 x13_2))).setCell ⟨go75, ((rd x10_1 x11_1) : Int).toNat * 4 + 1, none⟩ (.int .i64 (rd y36036 x13_2))).setCell ⟨go75, ((rd x10_1 x11_1) : Int).toNat * 4 + 2, none⟩ (.int .i64 ((rd_T42 l0 (rd x10_1 x11_1)).f0))).setCell ⟨go75, ((rd x10_1 x11_1) : Int).toNat * 4 + 3, none⟩ (.int .i64 ((rd_T42 l0 (rd x10_1 x11_1)).f1)))) := ⟨by repeat (first | (with_reducible first | exact HB.out | apply below_alloc | apply pw_below_drewN | apply below_drew1 | refine below_set ?_ GB75.out | refine below_set ?_ GB75.out | refine below_set ?_ GB75.out | refine below_set ?_ GB75.out | refine below_set ?_ GE36016.out) | exact HB.out)⟩
                                              (try clear HO_6)
                                              (try clear HO_10)
                                              (try clear HO36038)
                                              (try clear HO36041)
                                              (try clear BK36016)
                                              (try clear HB)
                                              generalize ((((w82.setCell ⟨go75, ((rd x10_1 x11_1) : Int).toNat * 4, none⟩ (.int .i64 (rd y36039 x13_2))).setCell ⟨go75, ((rd x10_1 x11_1) : Int).toNat * 4 + 1, none⟩ (.int .i64 (rd y36036 x13_2))).setCell ⟨go75, ((rd x10_1 x11_1) : Int).toNat * 4 + 2, none⟩ (.int .i64 ((rd_T42 l0 (rd x10_1 x11_1)).f0))).setCell ⟨go75, ((rd x10_1 x11_1) : Int).toNat * 4 + 3, none⟩ (.int .i64 ((rd_T42 l0 (rd x10_1 x11_1)).f1))) = w86 at n0_ n1_ n2_ n3_ n4_ n5_ ⊢
                                              have HO_6 := n0_
                                              have HO_10 := n1_
                                              have HO36038 := n2_
                                              have HO36041 := n3_
                                              have BK36016 := n4_
                                              have HB := n5_
                                              clear n0_ n1_ n2_ n3_ n4_ n5_
                                              have n0_ := Aside0.mk (Kd.R_drew HO_6.out)
                                              have n1_ := Aside0.mk (Kd.R_drew HO_10.out)
                                              have n2_ := Aside0.mk (Kd.R_drew HO36038.out)
                                              have n3_ := Aside0.mk (Kd.R_drew HO36041.out)
                                              have n4_ := Aside0.mk (blk_drew BK36016.out)
                                              have n5_ := Aside0.mk (below_drew1 HB.out)
                                              clear HO_6
                                              clear HO_10
                                              clear HO36038
                                              clear HO36041
                                              clear BK36016
                                              clear HB
                                              have HO_6 := n0_
                                              have HO_10 := n1_
                                              have HO36038 := n2_
                                              have HO36041 := n3_
                                              have BK36016 := n4_
                                              have HB := n5_
                                              clear n0_ n1_ n2_ n3_ n4_ n5_
                                              have p36046 : 0 ≤ (x13_2 : Int) := of_decide_eq_true (by first | (with_reducible assumption) | assumption)
                                              have q36046 : x13_2 < (y36039.length : Int) := of_decide_eq_true (by first | (with_reducible assumption) | assumption)
                                              obtain ⟨ad36046, e36046, hx36046_0⟩ := Kd.at_int (Kd.R_reads' HO36041.out).2.2 x13_2 p36046 q36046
                                              obtain rfl : ad36043 = ad36046 := (by injection e36046)
                                              replace p36046 := eq_true p36046
                                              replace q36046 := eq_true q36046
                                              have p76 : 0 ≤ (x13_2 : Int) := of_decide_eq_true (by first | (with_reducible assumption) | assumption)
                                              have q76 : (x13_2 : Int) < ((y36039.length : Int) : Int) := of_decide_eq_true (by first | (with_reducible assumption) | assumption)
                                              obtain ⟨go76, co76, eo76, gb76, gl76, cl76, HG76⟩ := Kd.R_form HO36041.out (by omega)
                                              (first | cases eo76 | (injection eo76 with ea_ en_ ec_; (first | subst ea_ | (injection ea_ with ea_; subst ea_)); subst ec_; clear en_))
                                              have GB76 := Aside0.mk gb76
                                              have GG76 := Aside0.mk HG76
                                              clear gb76 gl76 HG76
                                              (first | simp only [add_plain] at hx36043_0 | skip)
                                              (first | simp only [add_plain] at hx36046_0 | skip)
                                              obtain ⟨hx76_0, hf76_0⟩ := Kd.R_celln 0 HO36041.out (x13_2 : Int) p76 q76
                                              replace p76 := eq_true p76
                                              replace q76 := eq_true q76
                                              have HP88 := Kd.R_putn HO36041.out (x13_2 : Int) (wrap64 ((rd y36039 x13_2) + ((rd_T42 l0 (rd x10_1 x11_1)).f0)))
                                              rw [← Ny36047.out] at HP88
                                              have HQ88 := Aside0.mk HP88
                                              clear HP88
                                              refine start_ (n := 11) (S := fun w' => w'.cell? ⟨gb36016, 0, none⟩ = some (.int .i64 ((rd_T42 l0 (rd x10_1 x11_1)).f0)) ∧ w'.cell? ⟨gb36016, 1, none⟩ = some (.int .i64 ((rd_T42 l0 (rd x10_1 x11_1)).f1)) ∧ w'.cell? ⟨go76, (x13_2).toNat, none⟩ = some (.int .i64 (rd y36039 x13_2))) (ds := [10]) #[false, false, false, false, false, false, false, false, false, false, false] (by kernel_rfl) rfl rfl ⟨(blk_cell BK36016.out 0).trans rfl, (blk_cell BK36016.out 1).trans rfl, hx36046_0⟩ (fun hHeld => ?_); refine with_tabW spec_PackSprites.tab20 spec_PackSprites.bits20 (fun HT_ HW_ => ?_)
                                              generalize w86.drew = w87 at HO_6 HO_10 HO36038 HO36041 BK36016 HB GG76 HQ85 HQ88 hf76_0 hx36043_0 hx36046_0 hx76_0 hHeld ⊢
                                              refine pure_ (i := 0) (N := some 89) (v := ?_) (a' := ?_) #[true, false, false, false, false, false, false, false, false, false, false] rfl rfl (any_of HT_.out (by kernel_rfl)) (fun _ _ _ h => h) (Or.inl ⟨by rfl, ?_⟩) ?_ ?_
                                              rotate_left
                                              · intro w'
                                                go_simp
                                                with_reducible rfl
                                              rotate_left
                                              · simp only [Act.put, List.setIfInBounds_toArray, List.set_cons_zero, List.set_cons_succ, i64_w, i32_w]
                                                rfl
                                              refine pure_ (i := 1) (N := some 90) (v := ?_) (a' := ?_) #[true, true, false, false, false, false, false, false, false, false, false] rfl rfl (any_of HT_.out (by kernel_rfl)) (fun _ _ _ h => h) (Or.inl ⟨by rfl, ?_⟩) ?_ ?_
                                              rotate_left
                                              · intro w'
                                                go_simp
                                                with_reducible rfl
                                              rotate_left
                                              · simp only [Act.put, List.setIfInBounds_toArray, List.set_cons_zero, List.set_cons_succ, i64_w, i32_w]
                                                rfl
                                              refine pure_ (i := 2) (N := some 91) (v := ?_) (a' := ?_) #[true, true, true, false, false, false, false, false, false, false, false] rfl rfl (any_of HT_.out (by kernel_rfl)) (fun _ _ _ h => h) (Or.inl ⟨by rfl, ?_⟩) ?_ ?_
                                              rotate_left
                                              · intro w'
                                                go_simp
                                                with_reducible rfl
                                              rotate_left
                                              · simp only [Act.put, List.setIfInBounds_toArray, List.set_cons_zero, List.set_cons_succ, i64_w, i32_w]
                                                rfl
                                              refine pure_ (i := 3) (N := some 92) (v := ?_) (a' := ?_) #[true, true, true, true, false, false, false, false, false, false, false] rfl rfl (any_of HT_.out (by kernel_rfl)) (fun _ _ _ h => h) (Or.inl ⟨by rfl, ?_⟩) ?_ ?_
                                              rotate_left
                                              · intro w'
                                                go_simp
                                                with_reducible rfl
                                              rotate_left
                                              · simp only [Act.put, List.setIfInBounds_toArray, List.set_cons_zero, List.set_cons_succ, i64_w, i32_w]
                                                rfl
                                              refine pure_ (i := 4) (N := some 93) (v := ?_) (a' := ?_) #[true, true, true, true, true, false, false, false, false, false, false] rfl rfl (any_of HT_.out (by kernel_rfl)) (fun _ _ _ h => h) (Or.inl ⟨by rfl, ?_⟩) ?_ ?_
                                              rotate_left
                                              · intro w'
                                                go_simp
                                                with_reducible rfl
                                              rotate_left
                                              · simp only [Act.put, List.setIfInBounds_toArray, List.set_cons_zero, List.set_cons_succ, i64_w, i32_w]
                                                rfl
                                              refine pure_ (i := 6) (N := some 95) (v := ?_) (a' := ?_) #[true, true, true, true, true, false, true, false, false, false, false] rfl rfl (any_of HT_.out (by kernel_rfl)) (fun _ _ _ h => h) (Or.inl ⟨by rfl, ?_⟩) ?_ ?_
                                              rotate_left
                                              · intro w'
                                                go_simp
                                                with_reducible rfl
                                              rotate_left
                                              · simp only [Act.put, List.setIfInBounds_toArray, List.set_cons_zero, List.set_cons_succ, i64_w, i32_w]
                                                rfl
                                              refine take_ (i := 5) (N := some 94) (v := ?_) (a' := ?_) #[true, true, true, true, true, true, true, false, false, false, false] rfl rfl (take_ofW HT_.out HW_.out (by kernel_rfl)) (fun _ _ _ h => h) (Or.inl ⟨by rfl, ?_⟩) hHeld ?_ ?_
                                              rotate_left
                                              · rintro w' ⟨s0, s1, s2⟩
                                                go_simp
                                                with_reducible rfl
                                              rotate_left
                                              · simp only [Act.put, List.setIfInBounds_toArray, List.set_cons_zero, List.set_cons_succ, i64_w, i32_w]
                                                rfl
                                              refine take_ (i := 7) (N := some 96) (v := ?_) (a' := ?_) #[true, true, true, true, true, true, true, true, false, false, false] rfl rfl (take_ofW HT_.out HW_.out (by kernel_rfl)) (fun _ _ _ h => h) (Or.inl ⟨by rfl, ?_⟩) hHeld ?_ ?_
                                              rotate_left
                                              · rintro w' ⟨s0, s1, s2⟩
                                                go_simp
                                                with_reducible rfl
                                              rotate_left
                                              · simp only [Act.put, List.setIfInBounds_toArray, List.set_cons_zero, List.set_cons_succ, i64_w, i32_w]
                                                rfl
                                              refine pure_ (i := 8) (N := some 97) (v := ?_) (a' := ?_) #[true, true, true, true, true, true, true, true, true, false, false] rfl rfl (any_of HT_.out (by kernel_rfl)) (fun _ _ _ h => h) (Or.inl ⟨by rfl, ?_⟩) ?_ ?_
                                              rotate_left
                                              · intro w'
                                                go_simp
                                                with_reducible rfl
                                              rotate_left
                                              · simp only [Act.put, List.setIfInBounds_toArray, List.set_cons_zero, List.set_cons_succ, i64_w, i32_w]
                                                rfl
                                              refine pure_ (i := 9) (N := some 98) (v := ?_) (a' := ?_) #[true, true, true, true, true, true, true, true, true, true, false] rfl rfl (any_of HT_.out (by kernel_rfl)) (fun _ _ _ h => h) (Or.inl ⟨by rfl, ?_⟩) ?_ ?_
                                              rotate_left
                                              · intro w'
                                                go_simp
                                                with_reducible rfl
                                              rotate_left
                                              · simp only [Act.put, List.setIfInBounds_toArray, List.set_cons_zero, List.set_cons_succ, i64_w, i32_w]
                                                rfl
                                              refine last_ (i := 10) (N := none) #[true, true, true, true, true, true, true, true, true, true, true] rfl rfl (one_of HT_.out (by kernel_rfl)) (by decide) (fun K hK => ?_)
                                              refine skip_ (w1 := ?_) (by rfl) rfl ?_ ?_
                                              rotate_left
                                              · go_simp
                                                rfl
                                              refine hK.out _ _ ?_
                                              clear hK K
                                              refine done_ (done_of HT_.out (by kernel_rfl)) ?_
                                              try go_wp2
                                              go_roundg k2
                                              case measure => have := HK1.out; have := HK2.out; omega
                                              case rel => exact ⟨(y36045), (y36036), (y36047), (wrap64 (x9_1 + ((rd_T42 l0 (rd x10_1 x11_1)).f1))), (x10_1), (wrap64 (x11_1 + 1)), (by first | rfl | (simp; done) | (simp [*]; done)), (by first | rfl | (simp; done) | (simp [*]; done)), H', ⟨by have := HK1.out; have := HK2.out; omega⟩, ⟨by (with_reducible repeat (first | apply Kd.R_alloc | apply Kd.R_drewN | apply Kd.R_drew)); exact Kd.R_mono (Kd.R_far (p := ⟨go76, (x13_2 : Int).toNat, none⟩) (Kd.R_types HO_6.out GG76.out (by decide)) (fun _ hk => hk.2) (.int .i64 (wrap64 ((rd y36039 x13_2) + ((rd_T42 l0 (rd x10_1 x11_1)).f0))))) (fun _ hk => trivial)⟩, ⟨by (with_reducible repeat (first | apply Kd.R_alloc | apply Kd.R_drewN | apply Kd.R_drew)); exact Kd.R_mono (Kd.R_far (p := ⟨go76, (x13_2 : Int).toNat, none⟩) (Kd.R_mono HO36038.out (fun k_ hk => (⟨hk, fun e_ => hk.2 (by rw [e_]; rfl)⟩ : _ ∧ k_ ≠ go76))) (fun _ hk => hk.2) (.int .i64 (wrap64 ((rd y36039 x13_2) + ((rd_T42 l0 (rd x10_1 x11_1)).f0))))) (fun _ hk => ⟨hk.1.2, hk.1.1⟩)⟩, ⟨by (with_reducible repeat (first | apply Kd.R_alloc | apply Kd.R_drewN | apply Kd.R_drew)); exact Kd.R_mono HQ88.out (fun _ hk => ⟨hk.2, hk.1⟩)⟩, ⟨by (with_reducible repeat (first | apply Kd.R_alloc | apply Kd.R_drewN | apply Kd.R_drew)); exact Kd.R_mono (Kd.R_far (p := ⟨go76, (x13_2 : Int).toNat, none⟩) (Kd.R_mono HO_10.out (fun k_ hk => (⟨hk, fun e_ => hk.2 (by rw [e_]; rfl)⟩ : _ ∧ k_ ≠ go76))) (fun _ hk => hk.2) (.int .i64 (wrap64 ((rd y36039 x13_2) + ((rd_T42 l0 (rd x10_1 x11_1)).f0))))) (fun _ hk => ⟨hk.1.1, hk.1.2⟩)⟩, ⟨by repeat (first | (with_reducible first | exact HB.out | apply below_alloc | apply pw_below_drewN | apply below_drew1 | refine below_set ?_ GB76.out | refine below_set ?_ GE36016.out) | exact HB.out)⟩⟩
                                            · rw [if_neg c74] at H
                                              exact absurd H (by simp)
                                          · rw [if_neg c73] at H
                                            exact absurd H (by simp)
                                        · rw [if_neg c72] at H
                                          exact absurd H (by simp)
                                      · rw [if_neg c71] at H
                                        exact absurd H (by simp)
                                    · rw [if_neg c70] at H
                                      exact absurd H (by simp)
                                  · rw [if_neg c69] at H
                                    exact absurd H (by simp)
                                · rw [if_neg c68] at H
                                  exact absurd H (by simp)
                              · rw [if_neg c67] at H
                                exact absurd H (by simp)
                            · rw [if_neg c66] at H
                              exact absurd H (by simp)
                          · rw [if_neg c65] at H
                            have c65b0 : (x13_2 == (x8_1.length : Int)) = false := beq_eq_false_iff_ne.mpr c65
                            have c65b1 : (x13_2 != (x8_1.length : Int)) = true := bne_iff_ne.mpr c65
                            by_cases c89 : 0 ≤ x11_1
                            · rw [if_pos c89] at H
                              have c89b0 : decide (0 ≤ x11_1) = true := decide_eq_true c89
                              clear c89
                              by_cases c90 : x11_1 < (x10_1.length : Int)
                              · rw [if_pos c90] at H
                                have c90b0 : decide (x11_1 < (x10_1.length : Int)) = true := decide_eq_true c90
                                clear c90
                                by_cases c91 : 0 ≤ x13_2
                                · rw [if_pos c91] at H
                                  exact absurd H (by simp)
                                · rw [if_neg c91] at H
                                  exact absurd H (by simp)
                              · rw [if_neg c90] at H
                                exact absurd H (by simp)
                            · rw [if_neg c89] at H
                              exact absurd H (by simp)
                  · rw [if_neg c18] at H
                    exact absurd H (by simp)
                · rw [if_neg c17] at H
                  exact absurd H (by simp)
              · rw [if_neg c16] at H
                exact absurd H (by simp)
            · rw [if_neg c15] at H
              have c15b0 : decide (x11_1 < (x10_1.length : Int)) = false := decide_eq_false c15
              clear c15
              simp only [Option.some.injEq, Prod.mk.injEq] at H
              obtain ⟨rfl, rfl⟩ := H
              obtain ⟨Ao92, co92, eo92⟩ := Kd.R_slice HO_10.out
              subst eo92
              go_wp2
              go_ret2
              exact ⟨_, by first | rfl | (simp [errW_none, errW_some] <;> rfl) | (simp [*, errW_none, errW_some] <;> rfl), by (with_reducible repeat (first | apply Kd.R_alloc | apply Kd.R_drewN | apply Kd.R_drew)); exact HO_6.out, by repeat (first | (with_reducible first | exact HB.out | apply below_alloc | apply pw_below_drewN | apply below_drew1) | exact HB.out)⟩
      · rw [if_neg c6] at H
        exact absurd H (by simp)
    · rw [if_neg c5] at H
      exact absurd H (by simp)
  · replace c4 := Bool.eq_false_iff.mpr c4
    subst c4
    have H1 : (some (([] : List (S50)), (-1))) = some (r1, r2) := by rw [if_neg (show ¬ (false = true) by decide)] at H; exact H
    clear H
    have H := H1
    clear H1
    simp only [Option.some.injEq, Prod.mk.injEq] at H
    obtain ⟨rfl, rfl⟩ := H
    go_enter Try.func35, Try.ntmps35
    go_wp2_with (first | ((with_reducible refine gate_callee (f := 55) rfl ?_); refine goesL_ (some 16) rfl rfl Try.func55 (by kernel_rfl) rfl #[.slice A0 l0.length c0, .int .i64 a1] rfl (by (try simp only [List.map_toArray, List.map_cons, List.map_nil]); first | done | rfl | (simp only [List.length_drop, List.length_take]; rfl)) ?_; (with_reducible refine (spec_validSprites.calls k _ _ l0 a1 false _ ?side1 ?side2 A3.out).mono ?_); (case side1 => repeat (first | exact HR0.out | (with_reducible refine Kd.C_alloc ?_ _) | (with_reducible refine Kd.C_drewN ?_ _) | (with_reducible refine Kd.C_drew ?_))); (case side2 => exact HC0.out); rintro e w' ⟨rfl, ⟨nd, rfl⟩⟩; refine ⟨_, rfl, ?_⟩))
    go_ret2
    exact ⟨_, by first | rfl | (simp [errW_none, errW_some] <;> rfl) | (simp [*, errW_none, errW_some] <;> rfl), by first | exact Kd.R_nil _ _ _ _ _ | exact Kd.N_nil _ _ _ _ _ | exact Kd.V_nil _ _ _ _ _ | exact Kd.Q_nil _ _ _ _ _ | exact Kd.S_nil _ _ _ _ _, by repeat (first | (with_reducible first | exact HB.out | apply below_alloc | apply pw_below_drewN | apply below_drew1) | exact HB.out)⟩


theorem eqA50 (d : Nat) (w : World) (x0 y0 : Int) (x1 y1 : Int) (x2 y2 : Int) (x3 y3 : Int) :
    (Op.equalIn (d + 2) 50 (.agg #[.int .i64 x0, .int .i64 x1, .int .i64 x2, .int .i64 x3]) (.agg #[.int .i64 y0, .int .i64 y1, .int .i64 y2, .int .i64 y3])).run Try.prog w = .ok (x0 == y0 && (x1 == y1 && (x2 == y2 && (x3 == y3)))) w := by
  refine eqA_of Try.underlying50 (by kernel_rfl) ?_
  refine eqf_cons (by rfl) (by go_simp; rfl) (by go_simp; rfl) (by go_simp) ?_
  refine eqf_cons (by rfl) (by go_simp; rfl) (by go_simp; rfl) (by go_simp) ?_
  refine eqf_cons (by rfl) (by go_simp; rfl) (by go_simp; rfl) (by go_simp) ?_
  exact eqf_last (by rfl) (by go_simp; rfl) (by go_simp; rfl) (by go_simp)
end Go.Proofs.Ytgfjccegehnjcaa.Q
