/- A part of the proof that the statement FnExactCoverImageSaid holds, under no condition of its own: The program's CoverImage and the reference's return the same, and what is returned is held by nobody else: over lists of numbers alone. -/
import Derived.Test.YtnofkbbcbpjhfaaCFnExactCoverImage2
import Derived.Test.YtnofkbbcbpjhfaaCFnExactCoverImage1
/- impl.coverImage's function value: a pixel that is covered by a layer's. -/
namespace Go.Proofs.Ytnofkbbcbpjhfaa.Q
open Go.RowKit Go.Proofs.YtnofkbbcbpjhfaaW.PrintWords Go.Proofs.YtnofkbbcbpjhfaaW.PrintLast Go.Proofs.YtnofkbbcbpjhfaaW.PrintMore
attribute [local go_sem] max2_int min2_int max_two min_two max_three min_three max_four min_four
set_option linter.unusedVariables false
set_option linter.unusedSimpArgs false
open Go.Proofs.Ytnofkbbcbpjhfaa.Pure

def blV (mode alpha n u : Int) : Int := (impl_blended.f mode n u alpha).getD 0
theorem blV_is (mode alpha n u : Int) : impl_blended.f mode n u alpha = some (blV mode alpha n u) := by
  have h : ∃ v, impl_blended.f mode n u alpha = some v := by
    unfold impl_blended.f impl_part255.f
    simp only [Option.bind_some]
    repeat' split
    all_goals exact ⟨_, rfl⟩
  obtain ⟨v, hv⟩ := h
  unfold blV
  rw [hv]; rfl
def inBoxZ (X Y lw lh : Int) (x y : Nat) : Bool := decide (X ≤ (x : Int) ∧ (x : Int) < X + lw ∧ Y ≤ (y : Int) ∧ (y : Int) < Y + lh)
theorem impl_Box_has_int (X Y lw lh : Int) (x y : Nat) (h1 : -1000 ≤ X ∧ X ≤ 1000) (h2 : -1000 ≤ Y ∧ Y ≤ 1000) (h3 : 0 ≤ lw ∧ lw ≤ 1000) (h4 : 0 ≤ lh ∧ lh ≤ 1000) : impl_Box_has.f X Y lw lh (x : Int) (y : Int) = some (inBoxZ X Y lw lh x y) := by
  unfold impl_Box_has.f inBoxZ
  rw [w64 (x := X + lw) (by omega) (by omega), w64 (x := Y + lh) (by omega) (by omega)]
  by_cases c1 : (x : Int) ≥ X
  · rw [if_pos c1]
    by_cases c2 : (x : Int) < X + lw
    · rw [if_pos c2]
      by_cases c3 : (y : Int) ≥ Y
      · rw [if_pos c3]; congr 1; rw [decide_eq_decide]; omega
      · rw [if_neg c3, decide_eq_false (by omega)]
    · rw [if_neg c2, decide_eq_false (by omega)]
  · rw [if_neg c1, decide_eq_false (by omega)]
def coverPx (a p : Int) (d : List Int) (lw : Int) (lh : Int) (ld : List Int) (X Y mode alpha : Int) (x y : Nat) : List Int :=
  if inBoxZ X Y lw lh x y = true then List.zipWith (blV mode alpha) (pxAt a p d x y) (pxAt lw p ld ((x : Int) - X).toNat ((y : Int) - Y).toNat) else pxAt a p d x y
set_option maxHeartbeats 4000000 in
set_option maxRecDepth 100000 in
theorem cover1_out (a b p : Int) (A : Option Addr) (c : Nat) (d : List Int) (hv : validI a b p d = true) (hc : d.length ≤ c) (lw lh X Y mode alpha : Int) (hid : Bool) (AL : Option Addr) (cl : Nat) (ld : List Int) (hvl : validI lw lh p ld = true) (hcl : ld.length ≤ cl) (hX : -16 ≤ X ∧ X ≤ 16) (hY : -16 ≤ Y ∧ Y ≤ 16) (x y : Nat) (hx : (x : Int) < a) (hy : (y : Int) < b) (B : Nat) (B3 : Nat) (w : World) (h1 : w.heap[B]? = some (.cells #[.int .i64 a, .int .i64 b, .int .i64 p, .slice A d.length c] 27 (0, 0))) (h3 : w.heap[B3]? = some (.cells #[.int .i64 lw, .int .i64 lh, .int .i64 p, .slice AL ld.length cl, .int .i64 X, .int .i64 Y, .int .i64 mode, .int .i64 alpha, .bool hid] 55 (0, 0))) (hr : Kd.C (Kd.int .i64) w A d.length d) (hrl : Kd.C (Kd.int .i64) w AL ld.length ld) (hin : inBoxZ X Y lw lh x y = false) :
    Calls Try.prog 142 (#[.int .i64 (x : Int), .int .i64 (y : Int)] ++ #[.pointer (some ⟨B, 0, none⟩), .pointer (some ⟨B3, 0, none⟩)]) w fun e w' => ∃ (A' : Option Addr) (c' : Nat), e = .returned (.slice A' (pxAt a p d x y).length c') ∧ Kd.C (Kd.int .i64) w' A' (pxAt a p d x y).length (pxAt a p d x y) ∧ (pxAt a p d x y).length ≤ c' ∧ Below w.heap.size w w' := by
  have hsl := ((validI_iff lw lh p ld).1 hvl).1
  have HH := Aside0.mk (impl_Box_has_int X Y lw lh x y (by omega) (by omega) (by omega) (by omega))
  have HLB := Aside0.mk (show impl_Layer_box.f lw lh p ld X Y mode alpha hid = some (X, Y, lw, lh) from rfl)
  rw [hin] at HH
  obtain ⟨A', c', hc', HA⟩ := at_px (x := x) (y := y) A c hv hc hx hy
  have HRL := Aside0.mk hrl
  have HCL := Aside0.mk hcl
  have H3 := Aside0.mk h3
  have k0 := (blk_cell h1 0).trans rfl; have k1 := (blk_cell h1 1).trans rfl; have k2 := (blk_cell h1 2).trans rfl; have k3 := (blk_cell h1 3).trans rfl
  generalize pxAt a p d x y = px at *
  have HA' := Aside0.mk (HA w hr)
  clear HA hr h1 hv hc hvl hcl hin hsl hX hY
  simp only [List.append_toArray, List.cons_append, List.nil_append]
  go_enter Try.func142, Try.ntmps142
  go_wp2_with (first
    | (go_at_call 109; (with_reducible refine (HA'.out.2).mono ?_); rintro e w2 ⟨rfl, hb⟩; have HB2 := Aside0.mk hb; have h32 := Aside0.mk (blk_below H3.out hb); have q0 : w2.cell? ⟨B3, 0, none⟩ = some (.int .i64 lw) := (blk_cell h32.out 0).trans rfl; have q1 : w2.cell? ⟨B3, 1, none⟩ = some (.int .i64 lh) := (blk_cell h32.out 1).trans rfl; have q2 : w2.cell? ⟨B3, 2, none⟩ = some (.int .i64 p) := (blk_cell h32.out 2).trans rfl; have q3 : w2.cell? ⟨B3, 3, none⟩ = some (.slice AL ld.length cl) := (blk_cell h32.out 3).trans rfl; have q4 : w2.cell? ⟨B3, 4, none⟩ = some (.int .i64 X) := (blk_cell h32.out 4).trans rfl; have q5 : w2.cell? ⟨B3, 5, none⟩ = some (.int .i64 Y) := (blk_cell h32.out 5).trans rfl; have q6 : w2.cell? ⟨B3, 6, none⟩ = some (.int .i64 mode) := (blk_cell h32.out 6).trans rfl; have q7 : w2.cell? ⟨B3, 7, none⟩ = some (.int .i64 alpha) := (blk_cell h32.out 7).trans rfl; have q8 : w2.cell? ⟨B3, 8, none⟩ = some (.bool hid) := (blk_cell h32.out 8).trans rfl; clear hb)
    | (go_at_call 104; (with_reducible refine (impl_Layer_box.calls lw lh p AL cl ld X Y mode alpha hid _ _ _ _ w2 (Kd.C_below HRL.out HB2.out) HCL.out HLB.out).mono ?_); rintro e w3 ⟨rfl, hb⟩; have HB3 := Aside0.mk (below_then HB2.out HB2.out.size hb); clear hb)
    | (go_at_call 97; (with_reducible refine (impl_Box_has.calls X Y lw lh (x : Int) (y : Int) _ _ HH.out).mono ?_); rintro e w4 ⟨rfl, hb⟩; have HB4 := Aside0.mk (below_then HB3.out HB3.out.size hb); clear hb))
  go_ret
  exact ⟨A', c', rfl, Kd.C_below HA'.out.1 HB4.out, hc', HB4.out⟩
set_option maxHeartbeats 4000000 in
set_option maxRecDepth 100000 in
theorem cover1_in (a b p : Int) (A : Option Addr) (c : Nat) (d : List Int) (hv : validI a b p d = true) (hc : d.length ≤ c) (lw lh X Y mode alpha : Int) (hid : Bool) (AL : Option Addr) (cl : Nat) (ld : List Int) (hvl : validI lw lh p ld = true) (hcl : ld.length ≤ cl) (hX : -16 ≤ X ∧ X ≤ 16) (hY : -16 ≤ Y ∧ Y ≤ 16) (x y : Nat) (hx : (x : Int) < a) (hy : (y : Int) < b) (B : Nat) (B3 : Nat) (w : World) (h1 : w.heap[B]? = some (.cells #[.int .i64 a, .int .i64 b, .int .i64 p, .slice A d.length c] 27 (0, 0))) (h3 : w.heap[B3]? = some (.cells #[.int .i64 lw, .int .i64 lh, .int .i64 p, .slice AL ld.length cl, .int .i64 X, .int .i64 Y, .int .i64 mode, .int .i64 alpha, .bool hid] 55 (0, 0))) (hr : Kd.C (Kd.int .i64) w A d.length d) (hrl : Kd.C (Kd.int .i64) w AL ld.length ld) (hin : inBoxZ X Y lw lh x y = true) :
    Calls Try.prog 142 (#[.int .i64 (x : Int), .int .i64 (y : Int)] ++ #[.pointer (some ⟨B, 0, none⟩), .pointer (some ⟨B3, 0, none⟩)]) w fun e w' => ∃ v : Value, e = .returned v ∧ Kd.R (Kd.int .i64) 3 w' w.heap.size (fun _ => True) v (List.zipWith (blV mode alpha) (pxAt a p d x y) (pxAt lw p ld ((x : Int) - X).toNat ((y : Int) - Y).toNat)) ∧ Below w.heap.size w w' := by
  have hsl := ((validI_iff lw lh p ld).1 hvl).1
  have hs := ((validI_iff a b p d).1 hv).1
  have HH := Aside0.mk (impl_Box_has_int X Y lw lh x y (by omega) (by omega) (by omega) (by omega))
  have HLB := Aside0.mk (show impl_Layer_box.f lw lh p ld X Y mode alpha hid = some (X, Y, lw, lh) from rfl)
  have hin' : X ≤ (x : Int) ∧ (x : Int) < X + lw ∧ Y ≤ (y : Int) ∧ (y : Int) < Y + lh := by unfold inBoxZ at hin; exact of_decide_eq_true hin
  rw [hin] at HH
  obtain ⟨A', c', hc', HA⟩ := at_px (x := x) (y := y) A c hv hc hx hy
  obtain ⟨i', hi'⟩ := Int.eq_ofNat_of_zero_le (show 0 ≤ (x : Int) - X by omega)
  obtain ⟨j', hj'⟩ := Int.eq_ofNat_of_zero_le (show 0 ≤ (y : Int) - Y by omega)
  rw [hi', hj', Int.toNat_natCast, Int.toNat_natCast]
  obtain ⟨A2, c2, hc2, HA2⟩ := at_px (x := i') (y := j') AL cl hvl hcl (by omega) (by omega)
  have hwi : wrap64 ((x : Int) - X) = (i' : Int) := by rw [w64 (by omega) (by omega)]; exact hi'
  have hwj : wrap64 ((y : Int) - Y) = (j' : Int) := by rw [w64 (by omega) (by omega)]; exact hj'
  rw [← hwi, ← hwj] at HA2
  have hLp := pxAt_len hv hx hy
  have hUp := pxAt_len hvl (x := i') (y := j') (by omega) (by omega)
  have HRL := Aside0.mk hrl
  have HCL := Aside0.mk hcl
  have H3 := Aside0.mk h3
  have HC1 := Aside0.mk (HA w hr).1
  have HC2 := Aside0.mk (HA2 w hrl).1
  have k0 := (blk_cell h1 0).trans rfl; have k1 := (blk_cell h1 1).trans rfl; have k2 := (blk_cell h1 2).trans rfl; have k3 := (blk_cell h1 3).trans rfl
  generalize pxAt a p d x y = L at *
  generalize pxAt lw p ld i' j' = U at *
  have HA' := Aside0.mk (HA w hr)
  replace HA2 := Aside0.mk HA2
  have hLU : U.length = L.length := by omega
  have HLU := Aside0.mk hLU
  have HL4 := Aside0.mk (show L.length ≤ 4 by omega)
  have HXY := Aside0.mk (And.intro hX (And.intro hY hs))
  clear HA hr h1 hv hc hvl hcl hin hsl hs hi' hj' hwi hwj hLp hUp h3 hrl hLU
  have hui := Try.underlying22
  simp only [List.append_toArray, List.cons_append, List.nil_append]
  go_enter Try.func142, Try.ntmps142
  go_wp2_with (first
    | (go_at_call 109; (with_reducible refine (HA'.out.2).mono ?_); rintro e w2 ⟨rfl, hb⟩; have HB2 := Aside0.mk hb; have h32 := Aside0.mk (blk_below H3.out hb); have q0 : w2.cell? ⟨B3, 0, none⟩ = some (.int .i64 lw) := (blk_cell h32.out 0).trans rfl; have q1 : w2.cell? ⟨B3, 1, none⟩ = some (.int .i64 lh) := (blk_cell h32.out 1).trans rfl; have q2 : w2.cell? ⟨B3, 2, none⟩ = some (.int .i64 p) := (blk_cell h32.out 2).trans rfl; have q3 : w2.cell? ⟨B3, 3, none⟩ = some (.slice AL ld.length cl) := (blk_cell h32.out 3).trans rfl; have q4 : w2.cell? ⟨B3, 4, none⟩ = some (.int .i64 X) := (blk_cell h32.out 4).trans rfl; have q5 : w2.cell? ⟨B3, 5, none⟩ = some (.int .i64 Y) := (blk_cell h32.out 5).trans rfl; have q6 : w2.cell? ⟨B3, 6, none⟩ = some (.int .i64 mode) := (blk_cell h32.out 6).trans rfl; have q7 : w2.cell? ⟨B3, 7, none⟩ = some (.int .i64 alpha) := (blk_cell h32.out 7).trans rfl; have q8 : w2.cell? ⟨B3, 8, none⟩ = some (.bool hid) := (blk_cell h32.out 8).trans rfl; clear hb)
    | (go_at_call 104; (with_reducible refine (impl_Layer_box.calls lw lh p AL cl ld X Y mode alpha hid _ _ _ _ w2 (Kd.C_below HRL.out HB2.out) HCL.out HLB.out).mono ?_); rintro e w3 ⟨rfl, hb⟩; have HB3 := Aside0.mk (below_then HB2.out HB2.out.size hb); have h33 := Aside0.mk (blk_below h32.out hb); clear hb)
    | (go_at_call 97; (with_reducible refine (impl_Box_has.calls X Y lw lh (x : Int) (y : Int) _ _ HH.out).mono ?_); rintro e w4 ⟨rfl, hb⟩; have HB4 := Aside0.mk (below_then HB3.out HB3.out.size hb); have h34 := Aside0.mk (blk_below h33.out hb); have r0 : w4.cell? ⟨B3, 0, none⟩ = some (.int .i64 lw) := (blk_cell h34.out 0).trans rfl; have r1 : w4.cell? ⟨B3, 1, none⟩ = some (.int .i64 lh) := (blk_cell h34.out 1).trans rfl; have r2 : w4.cell? ⟨B3, 2, none⟩ = some (.int .i64 p) := (blk_cell h34.out 2).trans rfl; have r3 : w4.cell? ⟨B3, 3, none⟩ = some (.slice AL ld.length cl) := (blk_cell h34.out 3).trans rfl; have r4 : w4.cell? ⟨B3, 4, none⟩ = some (.int .i64 X) := (blk_cell h34.out 4).trans rfl; have r5 : w4.cell? ⟨B3, 5, none⟩ = some (.int .i64 Y) := (blk_cell h34.out 5).trans rfl; have r6 : w4.cell? ⟨B3, 6, none⟩ = some (.int .i64 mode) := (blk_cell h34.out 6).trans rfl; have r7 : w4.cell? ⟨B3, 7, none⟩ = some (.int .i64 alpha) := (blk_cell h34.out 7).trans rfl; have r8 : w4.cell? ⟨B3, 8, none⟩ = some (.bool hid) := (blk_cell h34.out 8).trans rfl; clear hb)
    | (go_at_call 109; (with_reducible refine ((HA2.out w4 (Kd.C_below HRL.out HB4.out)).2).mono ?_); rintro e w5 ⟨rfl, hb⟩; have HB5 := Aside0.mk (below_then HB4.out HB4.out.size hb); have h35 := Aside0.mk (blk_below h34.out hb); clear hb))
  have h3z := blk_alloc h35.out (.cells #[] 3)
  go_loopw [9, 37] (fun v9 v37 W => ∃ i : Nat, v37 = .int .i64 i ∧ i ≤ L.length ∧ (∃ (v : Value) (D : List Int), v = v9 ∧ Aside0 (D = (List.zipWith (blV mode alpha) L U).take i) ∧ Aside0 (D.length ≤ 4) ∧ Aside0 (Kd.R (Kd.int .i64) 3 W w.heap.size (fun _ => True) v D)) ∧ Aside0 (W.heap[B3]? = some (.cells #[.int .i64 lw, .int .i64 lh, .int .i64 p, .slice AL ld.length cl, .int .i64 X, .int .i64 Y, .int .i64 mode, .int .i64 alpha, .bool hid] 55 (0, 0))) ∧ Aside0 (Below w.heap.size w W)) (fun _ v37 _ => L.length - (intOf v37).toNat)
  case atStart => exact ⟨0, rfl, by omega, ⟨_, [], rfl, ⟨by simp⟩, ⟨by simp⟩, ⟨R_empty _ _ _ _ HB5.out.size⟩⟩, ⟨h3z⟩, ⟨below_alloc HB5.out _⟩⟩
  case round =>
    obtain ⟨i, rfl, hi, ⟨v, D, rfl, hD, hdl, hr⟩, h3, hb⟩ := hrel
    clear h3z
    by_cases hil : i < L.length
    · have hdi : decide ((i : Int) < (L.length : Int)) = true := by simp; omega
      have hiu : i < U.length := by have := HLU.out; omega
      have hdu : decide ((i : Int) < (U.length : Int)) = true := by simp; omega
      obtain ⟨ad1, e1, hxl⟩ := Kd.at_int (Kd.C_below HC1.out hb.out) (i : Int) (by omega) (by omega)
      obtain ⟨ad2, e2, hxu⟩ := Kd.at_int (Kd.C_below HC2.out hb.out) (i : Int) (by omega) (by omega)
      subst e1
      subst e2
      rw [Int.toNat_natCast, rd_nat L i hil] at hxl
      rw [Int.toNat_natCast, rd_nat U i hiu] at hxu
      go_wp2
      refine start_ (n := 14) (S := fun w' => w'.cell? ⟨B3, 6, none⟩ = some (.int .i64 mode) ∧ w'.cell? ⟨B3, 7, none⟩ = some (.int .i64 alpha) ∧ w'.cell? (ad2.add i) = some (.int .i64 (U[i]'hiu))) (ds := [12]) #[false, false, false, false, false, false, false, false, false, false, false, false, false, false] (by kernel_rfl) rfl rfl ⟨((blk_cell (blk_below (w := wr) h3.out (below_drew (Below.refl _ _))) 6).trans rfl), ((blk_cell (blk_below (w := wr) h3.out (below_drew (Below.refl _ _))) 7).trans rfl), (((below_drew (Below.refl _ _)).cell (World.block_lt_of_cell? _ _ hxu)).trans hxu)⟩ (fun hHeld => ?_)
      refine pure_ (i := 0) (N := some 42) (v := ?_) (a' := ?_) #[true, false, false, false, false, false, false, false, false, false, false, false, false, false] rfl rfl (by kernel_rfl) (fun _ _ _ h => h) (Or.inl ⟨by rfl, ?_⟩) ?_ ?_
      rotate_left
      · intro w'
        go_simp
        with_reducible rfl
      rotate_left
      · simp only [Act.put, List.setIfInBounds_toArray, List.set_cons_zero, List.set_cons_succ, i64_w, i32_w]
        rfl
      refine pure_ (i := 1) (N := some 43) (v := ?_) (a' := ?_) #[true, true, false, false, false, false, false, false, false, false, false, false, false, false] rfl rfl (by kernel_rfl) (fun _ _ _ h => h) (Or.inl ⟨by rfl, ?_⟩) ?_ ?_
      rotate_left
      · intro w'
        go_simp
        with_reducible rfl
      rotate_left
      · simp only [Act.put, List.setIfInBounds_toArray, List.set_cons_zero, List.set_cons_succ, i64_w, i32_w]
        rfl
      refine pure_ (i := 3) (N := some 45) (v := ?_) (a' := ?_) #[true, true, false, true, false, false, false, false, false, false, false, false, false, false] rfl rfl (by kernel_rfl) (fun _ _ _ h => h) (Or.inl ⟨by rfl, ?_⟩) ?_ ?_
      rotate_left
      · intro w'
        go_simp
        with_reducible rfl
      rotate_left
      · simp only [Act.put, List.setIfInBounds_toArray, List.set_cons_zero, List.set_cons_succ, i64_w, i32_w]
        rfl
      refine pure_ (i := 4) (N := some 46) (v := ?_) (a' := ?_) #[true, true, false, true, true, false, false, false, false, false, false, false, false, false] rfl rfl (by kernel_rfl) (fun _ _ _ h => h) (Or.inl ⟨by rfl, ?_⟩) ?_ ?_
      rotate_left
      · intro w'
        go_simp
        with_reducible rfl
      rotate_left
      · simp only [Act.put, List.setIfInBounds_toArray, List.set_cons_zero, List.set_cons_succ, i64_w, i32_w]
        rfl
      refine pure_ (i := 5) (N := some 47) (v := ?_) (a' := ?_) #[true, true, false, true, true, true, false, false, false, false, false, false, false, false] rfl rfl (by kernel_rfl) (fun _ _ _ h => h) (Or.inl ⟨by rfl, ?_⟩) ?_ ?_
      rotate_left
      · intro w'
        go_simp
        with_reducible rfl
      rotate_left
      · simp only [Act.put, List.setIfInBounds_toArray, List.set_cons_zero, List.set_cons_succ, i64_w, i32_w]
        rfl
      refine pure_ (i := 6) (N := some 48) (v := ?_) (a' := ?_) #[true, true, false, true, true, true, true, false, false, false, false, false, false, false] rfl rfl (by kernel_rfl) (fun _ _ _ h => h) (Or.inl ⟨by rfl, ?_⟩) ?_ ?_
      rotate_left
      · intro w'
        go_simp
        with_reducible rfl
      rotate_left
      · simp only [Act.put, List.setIfInBounds_toArray, List.set_cons_zero, List.set_cons_succ, i64_w, i32_w]
        rfl
      refine pure_ (i := 8) (N := some 50) (v := ?_) (a' := ?_) #[true, true, false, true, true, true, true, false, true, false, false, false, false, false] rfl rfl (by kernel_rfl) (fun _ _ _ h => h) (Or.inl ⟨by rfl, ?_⟩) ?_ ?_
      rotate_left
      · intro w'
        go_simp
        with_reducible rfl
      rotate_left
      · simp only [Act.put, List.setIfInBounds_toArray, List.set_cons_zero, List.set_cons_succ, i64_w, i32_w]
        rfl
      refine take_ (i := 2) (N := some 44) (v := ?_) (a' := ?_) #[true, true, true, true, true, true, true, false, true, false, false, false, false, false] rfl rfl (by kernel_rfl) (fun _ _ _ h => h) (Or.inl ⟨by rfl, ?_⟩) hHeld ?_ ?_
      rotate_left
      · rintro w' ⟨s0, s1, s2⟩
        go_simp
        with_reducible rfl
      rotate_left
      · simp only [Act.put, List.setIfInBounds_toArray, List.set_cons_zero, List.set_cons_succ, i64_w, i32_w]
        rfl
      refine take_ (i := 7) (N := some 49) (v := ?_) (a' := ?_) #[true, true, true, true, true, true, true, true, true, false, false, false, false, false] rfl rfl (by kernel_rfl) (fun _ _ _ h => h) (Or.inl ⟨by rfl, ?_⟩) hHeld ?_ ?_
      rotate_left
      · rintro w' ⟨s0, s1, s2⟩
        go_simp
        with_reducible rfl
      rotate_left
      · simp only [Act.put, List.setIfInBounds_toArray, List.set_cons_zero, List.set_cons_succ, i64_w, i32_w]
        rfl
      refine take_ (i := 9) (N := some 51) (v := ?_) (a' := ?_) #[true, true, true, true, true, true, true, true, true, true, false, false, false, false] rfl rfl (by kernel_rfl) (fun _ _ _ h => h) (Or.inl ⟨by rfl, ?_⟩) hHeld ?_ ?_
      rotate_left
      · rintro w' ⟨s0, s1, s2⟩
        go_simp
        with_reducible rfl
      rotate_left
      · simp only [Act.put, List.setIfInBounds_toArray, List.set_cons_zero, List.set_cons_succ, i64_w, i32_w]
        rfl
      refine one_ (i := 10) (N := some 52) #[true, true, true, true, true, true, true, true, true, true, true, false, false, false] rfl rfl (by kernel_rfl) (by decide) (fun K hK => ?_)
      refine goes_ Try.func143 (by kernel_rfl) rfl #[.int .i64 mode, .int .i64 (L[i]'hil), .int .i64 (U[i]'hiu), .int .i64 alpha] (by rfl) rfl rfl (by simp only [List.map_toArray, List.map_cons, List.map_nil]; rfl) ?_
      with_reducible refine (impl_blended.calls mode (L[i]'hil) (U[i]'hiu) alpha (blV mode alpha (L[i]'hil) (U[i]'hiu)) _ (blV_is _ _ _ _)).mono ?_
      rintro e w3 ⟨rfl, hb3⟩
      refine ⟨_, rfl, ?_⟩
      have h33 := Aside0.mk (blk_below (w := wr.drew) h3.out hb3)
      have hx3 := Aside0.mk ((hb3.cell (World.block_lt_of_cell? _ _ hHeld.2.2)).trans hHeld.2.2)
      have hr3 := Aside0.mk (Kd.R_below (Kd.R_drew hr.out) hb3)
      have hbb3 := Aside0.mk (below_then (below_drew hb.out) (below_drew hb.out).size hb3)
      clear hb3
      refine hK.out _ _ ⟨((blk_cell h33.out 6).trans rfl), ((blk_cell h33.out 7).trans rfl), hx3.out⟩ (fun hHeld => ?_)
      clear hK K
      refine norm_ (a' := ?_) ?_ ?_
      rotate_left
      · show Act.put _ (some 52) _ = _
        simp only [Act.put, List.setIfInBounds_toArray, List.set_cons_zero, List.set_cons_succ, i64_w, i32_w]
        rfl
      refine one_ (i := 11) (N := some 53) #[true, true, true, true, true, true, true, true, true, true, true, true, false, false] rfl rfl (by kernel_rfl) (by decide) (fun K hK => ?_)
      refine value_ (w1 := ?_) (v := ?_) (by rfl) rfl ?_ ?_
      rotate_left 2
      · go_simp
        constructor
        · rfl
        · rfl
      refine hK.out _ _ ⟨((blk_cell (blk_alloc h33.out _) 6).trans rfl), ((blk_cell (blk_alloc h33.out _) 7).trans rfl), ((World.cell?_alloc_lt _ _ _ (World.block_lt_of_cell? _ _ hx3.out)).trans hx3.out)⟩ (fun hHeld => ?_)
      clear hK K
      refine norm_ (a' := ?_) ?_ ?_
      rotate_left
      · show Act.put _ (some 53) _ = _
        simp only [Act.put, List.setIfInBounds_toArray, List.set_cons_zero, List.set_cons_succ, i64_w, i32_w]
        rfl
      refine last_ (i := 12) (N := some 54) #[true, true, true, true, true, true, true, true, true, true, true, true, true, false] rfl rfl (by kernel_rfl) (by decide) (fun K hK => ?_)
      refine Kd.R_append_step (Kd.int .i64) (w0 := w) w.heap.size (by rfl) (.tmp 42) (.tmp 53) 22 3 (.int .i64 0) 8 rfl Try.underlying22 info3 rfl (by decide) (by omega) v D (blV mode alpha (L[i]'hil) (U[i]'hiu)) [.int .i64 (blV mode alpha (L[i]'hil) (U[i]'hiu))] (fun _ => True) (fun _ => False) rfl rfl rfl (fun _ h => h.elim) (fun _ _ => trivial) hr3.out hbb3.out hbb3.out.size (by have := hdl.out; omega) ?_
      intro v5 w5 ho hb5 hg hat
      have h35 := Aside0.mk (blk_grown h33.out hg (Kd.R_ne hr3.out h33.out (by decide)))
      have ho5 := Aside0.mk ho
      have hbb5 := Aside0.mk hb5
      clear ho hg hat hb5
      refine hK.out _ _ ?_
      clear hK K
      refine norm_ (a' := ?_) ?_ ?_
      rotate_left
      · show Act.put _ (some 54) _ = _
        simp only [Act.put, List.setIfInBounds_toArray, List.set_cons_zero, List.set_cons_succ, i64_w, i32_w]
        rfl
      refine pure_ (i := 13) (N := some 9) (v := ?_) (a' := ?_) #[true, true, true, true, true, true, true, true, true, true, true, true, true, true] rfl rfl (by kernel_rfl) (fun _ _ _ h => h) (Or.inl ⟨by rfl, ?_⟩) ?_ ?_
      rotate_left
      · intro w'
        go_simp
        with_reducible rfl
      rotate_left
      · simp only [Act.put, List.setIfInBounds_toArray, List.set_cons_zero, List.set_cons_succ, i64_w, i32_w]
        rfl
      refine done_ (by kernel_rfl) ?_
      go_wp2
      have hl4 := HL4.out
      exact ⟨⟨i + 1, by rw [w64n i (by omega)], by omega, ⟨v5, D ++ [blV mode alpha (L[i]'hil) (U[i]'hiu)], rfl, ⟨by rw [hD.out, List.take_succ_eq_append_getElem (by rw [List.length_zipWith]; omega), List.getElem_zipWith]⟩, ⟨by rw [List.length_append, hD.out, List.length_take, List.length_zipWith]; simp; omega⟩, ho5⟩, h35, hbb5⟩, by rw [w64n i (by omega)]; simp [intOf]; omega⟩
    · have hdi : decide ((i : Int) < (L.length : Int)) = false := by simp; omega
      have hie : i = L.length := by omega
      subst hie
      go_wp2
      go_ret
      exact ⟨_, rfl, by
        have h := hr.out
        rw [hD.out, List.take_of_length_le (by rw [List.length_zipWith]; omega)] at h
        exact h, hb.out⟩
theorem cover1_calls (a b p : Int) (A : Option Addr) (c : Nat) (d : List Int) (hv : validI a b p d = true) (hc : d.length ≤ c) (lw lh X Y mode alpha : Int) (hid : Bool) (AL : Option Addr) (cl : Nat) (ld : List Int) (hvl : validI lw lh p ld = true) (hcl : ld.length ≤ cl) (hX : -16 ≤ X ∧ X ≤ 16) (hY : -16 ≤ Y ∧ Y ≤ 16) (x y : Nat) (hx : (x : Int) < a) (hy : (y : Int) < b) (B : Nat) (B3 : Nat) (w : World) (h1 : w.heap[B]? = some (.cells #[.int .i64 a, .int .i64 b, .int .i64 p, .slice A d.length c] 27 (0, 0))) (h3 : w.heap[B3]? = some (.cells #[.int .i64 lw, .int .i64 lh, .int .i64 p, .slice AL ld.length cl, .int .i64 X, .int .i64 Y, .int .i64 mode, .int .i64 alpha, .bool hid] 55 (0, 0))) (hr : Kd.C (Kd.int .i64) w A d.length d) (hrl : Kd.C (Kd.int .i64) w AL ld.length ld) :
    Calls Try.prog 142 (#[.int .i64 (x : Int), .int .i64 (y : Int)] ++ #[.pointer (some ⟨B, 0, none⟩), .pointer (some ⟨B3, 0, none⟩)]) w fun e w' => ∃ (A' : Option Addr) (c' : Nat), e = .returned (.slice A' (coverPx a p d lw lh ld X Y mode alpha x y).length c') ∧ Kd.C (Kd.int .i64) w' A' (coverPx a p d lw lh ld X Y mode alpha x y).length (coverPx a p d lw lh ld X Y mode alpha x y) ∧ (coverPx a p d lw lh ld X Y mode alpha x y).length ≤ c' ∧ Below w.heap.size w w' := by
  unfold coverPx
  cases hin : inBoxZ X Y lw lh x y with
  | false =>
    simp only [Bool.false_eq_true, if_false]
    exact cover1_out a b p A c d hv hc lw lh X Y mode alpha hid AL cl ld hvl hcl hX hY x y hx hy B B3 w h1 h3 hr hrl hin
  | true =>
    simp only [if_true]
    refine (cover1_in a b p A c d hv hc lw lh X Y mode alpha hid AL cl ld hvl hcl hX hY x y hx hy B B3 w h1 h3 hr hrl hin).mono ?_
    rintro e w' ⟨v, rfl, hR, hb⟩
    obtain ⟨A', c', rfl, hl, hC⟩ := Kd.R_reads hR
    exact ⟨A', c', rfl, hC, hl, hb⟩
theorem coverPx_le {a b p : Int} {d : List Int} (hv : validI a b p d = true) (lw lh : Int) (ld : List Int) (X Y mode alpha : Int) {x y : Nat} (hx : (x : Int) < a) (hy : (y : Int) < b) : (coverPx a p d lw lh ld X Y mode alpha x y).length ≤ 4 := by
  have h := pxAt_le hv hx hy
  unfold coverPx
  split
  · rw [List.length_zipWith]; omega
  · exact h

/- impl.imageBy: the image whose pixels a function value tells. -/

set_option maxHeartbeats 4000000 in
set_option maxRecDepth 100000 in
theorem imageBy_calls (q : Nat) (lb : Array Value) (px : Nat → Nat → List Int) (a b : Nat) (p : Int) (ha : a ≤ 16) (hb_ : b ≤ 16) (w : World)
    (eg : ∀ args W, (callFunc q args).run Try.prog W = .ok (.enter q args) W) (hpl : ∀ x y, x < a → y < b → (px x y).length ≤ 4)
    (hp : ∀ (W : World) (x y : Nat), x < a → y < b → Below w.heap.size w W → Calls Try.prog q (#[.int .i64 (x : Int), .int .i64 (y : Int)] ++ lb) W fun e W' => ∃ (A : Option Addr) (c : Nat), e = .returned (.slice A (px x y).length c) ∧ Kd.C (Kd.int .i64) W' A (px x y).length (px x y) ∧ (px x y).length ≤ c ∧ Below W.heap.size W W') :
    Calls Try.prog 107 #[.int .i64 (a : Int), .int .i64 (b : Int), .int .i64 p, .func (.func q) #[] lb] w fun e w' => ∃ v3_ : Value, e = .returned (.agg #[.int .i64 (a : Int), .int .i64 (b : Int), .int .i64 p, v3_]) ∧ Kd.R (Kd.int .i64) 3 w' w.heap.size (fun _ => True) v3_ (imgD px a b) ∧ Below w.heap.size w w' := by
  have HP := Aside0.mk hp
  have EG := Aside0.mk eg
  have HB0 := Aside0.mk (Below.refl w.heap.size w)
  have hu := Try.underlying27
  have hui := Try.underlying22
  clear hp eg
  go_enter Try.func107, Try.ntmps107
  go_wp2_with (first
    | ((with_reducible refine gate_dst (N := 8) rfl ?_); refine box_event ?hg (N := 8) ?hd (cs := #[.int .i64 0, .int .i64 0, .int .i64 0, .slice none 0 0]) (t := 27) ?hr ?_; (case hd => rfl); (case hg => rfl); (case hr => first | (go_simp; done) | (go_simp; rfl)); intro g8 hg_ w1 hbox hb; have HB1 := Aside0.mk (below_then HB0.out HB0.out.size hb); have K1 := Aside0.mk hbox; have Gg8 := Aside0.mk (show w.heap.size ≤ g8 from by rw [hg_]; exact HB0.out.size); clear hbox hb hg_))
  have HGM := blk_new w1 (.cells #[.int .i64 (a : Int), .int .i64 (b : Int), .int .i64 p, .slice none 0 0] 27 (0, 0))
  obtain ⟨g9, hg9⟩ : ∃ g9, g9 = w1.heap.size := ⟨_, rfl⟩
  have G89 : g8 < g9 := by rw [hg9]; exact blk_lt K1.out
  have GE9 : w.heap.size ≤ g9 := by have := Gg8.out; omega
  rw [← hg9] at HGM ⊢
  go_loopw [17] (fun v17 W => ∃ y : Nat, v17 = .int .i64 y ∧ y ≤ b ∧ (∃ (v : Value) (D : List Int), Aside0 (D = imgD px a y) ∧ Aside0 (D.length ≤ 64 * y) ∧ Aside0 (Kd.R (Kd.int .i64) 3 W w.heap.size (fun _ => True) v D) ∧ Aside0 (W.heap[g9]? = some (.cells #[.int .i64 (a : Int), .int .i64 (b : Int), .int .i64 p, v] 27 (0, 0)))) ∧ Aside0 (W.heap[g8]? = some (.cells #[.int .i64 0, .int .i64 0, .int .i64 0, .slice none 0 0] 27 (0, 0))) ∧ Aside0 (Below w.heap.size w W)) (fun v17 _ => b - (intOf v17).toNat)
  case atStart => exact ⟨0, rfl, by omega, ⟨_, [], ⟨rfl⟩, ⟨by simp⟩, ⟨Kd.R_nil _ _ _ _ _⟩, ⟨HGM⟩⟩, ⟨blk_alloc K1.out _⟩, ⟨below_alloc HB1.out _⟩⟩
  case round =>
    clear HGM hg9
    obtain ⟨y, rfl, hy, ⟨v, D, hD, hdl, hr, h9⟩, h8, hb⟩ := hrel
    by_cases hly : y < b
    · have hdy : decide ((y : Int) < (b : Int)) = true := by simp; omega
      go_wp2
      go_loopw [21] (fun v21 W => ∃ x : Nat, v21 = .int .i64 x ∧ x ≤ a ∧ (∃ (v : Value) (D : List Int), Aside0 (D = imgD px a y ++ rowD px x y) ∧ Aside0 (D.length ≤ 64 * y + 4 * x) ∧ Aside0 (Kd.R (Kd.int .i64) 3 W w.heap.size (fun _ => True) v D) ∧ Aside0 (W.heap[g9]? = some (.cells #[.int .i64 (a : Int), .int .i64 (b : Int), .int .i64 p, v] 27 (0, 0)))) ∧ Aside0 (W.heap[g8]? = some (.cells #[.int .i64 0, .int .i64 0, .int .i64 0, .slice none 0 0] 27 (0, 0))) ∧ Aside0 (Below w.heap.size w W)) (fun v21 _ => a - (intOf v21).toNat)
      case atStart => exact ⟨0, rfl, by omega, ⟨v, D, ⟨by rw [hD.out]; simp [rowD]⟩, hdl, hr, h9⟩, h8, hb⟩
      case round =>
        clear hr h9 h8 hb hdl hD
        obtain ⟨x, rfl, hx, ⟨v, D, hD, hdl, hr, h9⟩, h8, hb⟩ := hrel
        by_cases hlx : x < a
        · have hdx : decide ((x : Int) < (a : Int)) = true := by simp; omega
          go_wp2
          refine start_ (n := 9) (S := fun w' => w'.cell? ⟨g9, 3, none⟩ = some v) (ds := [8]) #[false, false, false, false, false, false, false, false, false] (by kernel_rfl) rfl rfl (((blk_cell (w := wr.drew) h9.out 3).trans rfl)) (fun hHeld => ?_)
          refine pure_ (i := 0) (N := some 24) (v := ?_) (a' := ?_) #[true, false, false, false, false, false, false, false, false] rfl rfl (by kernel_rfl) (fun _ _ _ h => h) (Or.inl ⟨by rfl, ?_⟩) ?_ ?_
          rotate_left
          · intro w'
            go_simp
            with_reducible rfl
          rotate_left
          · simp only [Act.put, List.setIfInBounds_toArray, List.set_cons_zero, List.set_cons_succ, i64_w, i32_w]
            rfl
          refine pure_ (i := 2) (N := some 26) (v := ?_) (a' := ?_) #[true, false, true, false, false, false, false, false, false] rfl rfl (by kernel_rfl) (fun _ _ _ h => h) (Or.inl ⟨by rfl, ?_⟩) ?_ ?_
          rotate_left
          · intro w'
            go_simp
            with_reducible rfl
          rotate_left
          · simp only [Act.put, List.setIfInBounds_toArray, List.set_cons_zero, List.set_cons_succ, i64_w, i32_w]
            rfl
          refine pure_ (i := 3) (N := some 27) (v := ?_) (a' := ?_) #[true, false, true, true, false, false, false, false, false] rfl rfl (by kernel_rfl) (fun _ _ _ h => h) (Or.inl ⟨by rfl, ?_⟩) ?_ ?_
          rotate_left
          · intro w'
            go_simp
            with_reducible rfl
          rotate_left
          · simp only [Act.put, List.setIfInBounds_toArray, List.set_cons_zero, List.set_cons_succ, i64_w, i32_w]
            rfl
          refine pure_ (i := 4) (N := some 28) (v := ?_) (a' := ?_) #[true, false, true, true, true, false, false, false, false] rfl rfl (by kernel_rfl) (fun _ _ _ h => h) (Or.inl ⟨by rfl, ?_⟩) ?_ ?_
          rotate_left
          · intro w'
            go_simp
            with_reducible rfl
          rotate_left
          · simp only [Act.put, List.setIfInBounds_toArray, List.set_cons_zero, List.set_cons_succ, i64_w, i32_w]
            rfl
          refine take_ (i := 1) (N := some 25) (v := ?_) (a' := ?_) #[true, true, true, true, true, false, false, false, false] rfl rfl (by kernel_rfl) (fun _ _ _ h => h) (Or.inl ⟨by rfl, ?_⟩) hHeld ?_ ?_
          rotate_left
          · intro w' s0
            go_simp
            with_reducible rfl
          rotate_left
          · simp only [Act.put, List.setIfInBounds_toArray, List.set_cons_zero, List.set_cons_succ, i64_w, i32_w]
            rfl
          refine one_ (i := 5) (N := some 29) #[true, true, true, true, true, true, false, false, false] rfl rfl (by kernel_rfl) (by decide) (fun K hK => ?_)
          refine call_ q (#[.int .i64 (x : Int), .int .i64 (y : Int)] ++ lb) (by rfl) rfl (fn_runs q lb EG.out rfl rfl _ (by simp only [List.map_toArray, List.map_cons, List.map_nil]; rfl)) ?_
          refine (HP.out _ x y hlx hly (below_drew hb.out)).mono ?_
          rintro e w3 ⟨A, c, rfl, hC, hl3, hb3⟩
          refine ⟨_, rfl, ?_⟩
          have h93 := Aside0.mk (blk_below (w := wr.drew) h9.out hb3)
          have h83 := Aside0.mk (blk_below (w := wr.drew) h8.out hb3)
          have hr3 := Aside0.mk (Kd.R_below (Kd.R_drew hr.out) hb3)
          have hbb3 := Aside0.mk (below_then (below_drew hb.out) (below_drew hb.out).size hb3)
          have hC3 := Aside0.mk hC
          have hl3' := Aside0.mk hl3
          have HPL := Aside0.mk (hpl x y hlx hly)
          clear hb3 hC hl3
          refine hK.out _ _ (((blk_cell h93.out 3).trans rfl)) (fun hHeld => ?_)
          clear hK K
          refine norm_ (a' := ?_) ?_ ?_
          rotate_left
          · show Act.put _ (some 29) _ = _
            simp only [Act.put, List.setIfInBounds_toArray, List.set_cons_zero, List.set_cons_succ, i64_w, i32_w]
            rfl
          refine one_ (i := 6) (N := some 30) #[true, true, true, true, true, true, true, false, false] rfl rfl (by kernel_rfl) (by decide) (fun K hK => ?_)
          refine Kd.R_append_rows_step (Kd.int .i64) (w0 := w) w.heap.size (by rfl) (.tmp 25) (.tmp 29) 22 3 (.int .i64 0) 8 rfl Try.underlying22 info3 rfl (by decide) (by omega) v D (px x y) _ _ _ (fun _ => True) (fun _ => False) rfl rfl hr3.out hC3.out (fun _ _ h => h) (fun _ h => h.elim) (fun _ _ => trivial) hbb3.out hbb3.out.size (by have := HPL.out; have := hdl.out; omega) ?_
          intro v5 w5 ho hb5 hg hat
          have h95 := Aside0.mk (blk_grown h93.out hg (Kd.R_ne hr3.out h93.out (by decide)))
          have h85 := Aside0.mk (blk_grown h83.out hg (Kd.R_ne hr3.out h83.out (by decide)))
          have ho5 := Aside0.mk ho
          have hbb5 := Aside0.mk hb5
          clear ho hb5 hg hat
          obtain ⟨A5, q5, e5⟩ := Kd.R_slice ho5.out
          subst e5
          refine hK.out _ _ (((blk_cell h95.out 3).trans rfl)) (fun hHeld => ?_)
          clear hK K
          refine norm_ (a' := ?_) ?_ ?_
          rotate_left
          · show Act.put _ (some 30) _ = _
            simp only [Act.put, List.setIfInBounds_toArray, List.set_cons_zero, List.set_cons_succ, i64_w, i32_w]
            rfl
          refine pure_ (i := 7) (N := some 31) (v := ?_) (a' := ?_) #[true, true, true, true, true, true, true, true, false] rfl rfl (by kernel_rfl) (fun _ _ _ h => h) (Or.inl ⟨by rfl, ?_⟩) ?_ ?_
          rotate_left
          · intro w'
            go_simp
            with_reducible rfl
          rotate_left
          · simp only [Act.put, List.setIfInBounds_toArray, List.set_cons_zero, List.set_cons_succ, i64_w, i32_w]
            rfl
          refine last_ (i := 8) (N := none) #[true, true, true, true, true, true, true, true, true] rfl rfl (by kernel_rfl) (by decide) (fun K hK => ?_)
          have c95 := (blk_cell h95.out 3).trans rfl
          have f95 := blk_frozen h95.out 3
          refine skip_ (w1 := ?_) (by rfl) rfl ?_ ?_
          rotate_left
          · go_simp
            rfl
          refine hK.out _ _ ?_
          clear hK K
          refine done_ (by kernel_rfl) ?_
          go_wp2
          exact ⟨⟨x + 1, by go_num, by omega, ⟨_, D ++ px x y, ⟨by rw [hD.out, rowD_succ, List.append_assoc]⟩, ⟨by rw [List.length_append]; have := hdl.out; have := HPL.out; omega⟩, ⟨Kd.R_mono (Kd.R_far (p := ⟨g9, 3, none⟩) (Kd.R_types ho5.out h95.out (by decide)) (fun _ hk => hk.2) _) (fun _ _ => trivial)⟩, ⟨blk_put h95.out 3 _ (by rw [List.length_append]; rfl)⟩⟩, ⟨blk_far h85.out (by simp; omega) _⟩, ⟨below_set hbb5.out (by omega)⟩⟩, by simp [intOf]; omega⟩
        · have hdx : decide ((x : Int) < (a : Int)) = false := by simp; omega
          have hxe : x = a := by omega
          subst hxe
          go_wp2
          go_roundw
          case rel => exact ⟨y + 1, by go_num, by omega, ⟨v, D, ⟨by rw [hD.out, imgD_succ]⟩, ⟨by have := hdl.out; omega⟩, hr, h9⟩, h8, hb⟩
          case measure => simp [intOf]; omega
    · have hdy : decide ((y : Int) < (b : Int)) = false := by simp; omega
      have hye : y = b := by omega
      subst hye
      have m0 := blk_cell h9.out 0; have m1 := blk_cell h9.out 1; have m2 := blk_cell h9.out 2; have m3 := blk_cell h9.out 3
      have z0 := blk_cell h8.out 0; have z1 := blk_cell h8.out 1; have z2 := blk_cell h8.out 2; have z3 := blk_cell h8.out 3
      have y0 := blk_frozen h8.out 0; have y1 := blk_frozen h8.out 1; have y2 := blk_frozen h8.out 2; have y3 := blk_frozen h8.out 3
      obtain ⟨A5, q5, e5⟩ := Kd.R_slice hr.out
      subst e5
      go_wp2
      have hD' := hD.out
      subst hD'
      have RR := Kd.R_types hr.out h8.out (by decide)
      have G8 := Gg8.out
      have H8 := h8.out
      refine bodyPost_ret (results_cell_row rfl _ _ g8 27 #[.int .i64 (a : Int), .int .i64 (y : Int), .int .i64 p, .slice A5 (imgD px a y).length q5] (0, 0) _ rfl (by
        refine blk_put (cs := #[.int .i64 (a : Int), .int .i64 (y : Int), .int .i64 p, .slice none 0 0]) ?_ 3 _ rfl
        refine blk_put (cs := #[.int .i64 (a : Int), .int .i64 (y : Int), .int .i64 0, .slice none 0 0]) ?_ 2 _ rfl
        refine blk_put (cs := #[.int .i64 (a : Int), .int .i64 0, .int .i64 0, .slice none 0 0]) ?_ 1 _ rfl
        refine blk_put (cs := #[.int .i64 0, .int .i64 0, .int .i64 0, .slice none 0 0]) ?_ 0 _ rfl
        exact H8
        ) hu rfl (by kernel_rfl)) rfl ?_
      exact ⟨_, rfl, Kd.R_mono (Kd.R_far (Kd.R_far (Kd.R_far (Kd.R_far RR (fun k hk => hk.2) _) (fun k hk => hk.2) _) (fun k hk => hk.2) _) (fun k hk => hk.2) _) (fun _ _ => trivial), below_set (below_set (below_set (below_set hb.out (by omega)) (by omega)) (by omega)) (by omega)⟩

/- impl.coverImage: an image that is covered by a valid layer. -/

def impl_coverImage.f (a b p : Int) (d : List Int) (lw lh lp : Int) (ld : List Int) (X Y mode alpha : Int) (hid : Bool) : Option (Int × Int × Int × List Int) :=
  if validI a b p d = true ∧ validI lw lh lp ld = true ∧ lp = p ∧ (-16 ≤ X ∧ X ≤ 16) ∧ (-16 ≤ Y ∧ Y ≤ 16) then some (a, b, p, imgD (coverPx a p d lw lh ld X Y mode alpha) a.toNat b.toNat) else none
set_option maxHeartbeats 4000000 in
set_option maxRecDepth 100000 in
theorem cover_yes (a b : Nat) (p : Int) (A : Option Addr) (c : Nat) (d : List Int) (lw lh : Int) (AL : Option Addr) (cl : Nat) (ld : List Int) (X Y mode alpha : Int) (hid : Bool) (w : World) (hr0_3 : Kd.C (Kd.int .i64) w A d.length d) (hc0_3 : d.length ≤ c) (hr1_3 : Kd.C (Kd.int .i64) w AL ld.length ld) (hc1_3 : ld.length ≤ cl) (hv1 : validI a b p d = true) (hvl : validI lw lh p ld = true) (hX : -16 ≤ X ∧ X ≤ 16) (hY : -16 ≤ Y ∧ Y ≤ 16) :
    Calls Try.prog 105 #[.agg #[.int .i64 (a : Int), .int .i64 (b : Int), .int .i64 p, .slice A d.length c], .agg #[.int .i64 lw, .int .i64 lh, .int .i64 p, .slice AL ld.length cl, .int .i64 X, .int .i64 Y, .int .i64 mode, .int .i64 alpha, .bool hid]] w fun e w' => ∃ v3_ : Value, e = .returned (.agg #[.int .i64 (a : Int), .int .i64 (b : Int), .int .i64 p, v3_]) ∧ Kd.R (Kd.int .i64) 3 w' w.heap.size (fun _ => True) v3_ (imgD (coverPx a p d lw lh ld X Y mode alpha) a b) ∧ Below w.heap.size w w' := by
  have HC := Aside0.mk hc0_3
  have HR := Aside0.mk hr0_3
  have HCL := Aside0.mk hc1_3
  have HRL := Aside0.mk hr1_3
  have HB0 := Aside0.mk (Below.refl w.heap.size w)
  have HV := Aside0.mk hv1
  have HVL := Aside0.mk hvl
  have HXY := Aside0.mk (And.intro hX hY)
  have hu := Try.underlying27
  have hs := ((validI_iff a b p d).1 hv1).1
  have HPL := Aside0.mk (show ∀ x y, x < a → y < b → (coverPx a p d lw lh ld X Y mode alpha x y).length ≤ 4 from fun x y hx hy => coverPx_le hv1 lw lh ld X Y mode alpha (by omega) (by omega))
  clear hr0_3 hc0_3 hr1_3 hc1_3 hv1 hvl hX hY
  go_enter Try.func105, Try.ntmps105
  go_wp2_with (first
    | ((with_reducible refine gate_dst (N := 2) rfl ?_); refine box_event ?hg (N := 2) ?hd (cs := #[.int .i64 (a : Int), .int .i64 (b : Int), .int .i64 p, .slice A d.length c]) (t := 27) ?hr ?_; (case hd => rfl); (case hg => rfl); (case hr => first | (go_simp; done) | (go_simp; rfl)); intro g1 hg_ w1 hbox hb; have HB1 := Aside0.mk (below_then HB0.out HB0.out.size hb); have Kb0 := Aside0.mk hbox; have Gg1 := Aside0.mk (show w.heap.size ≤ g1 from by rw [hg_]; exact HB0.out.size); have Kg1_1 := Aside0.mk hbox; clear hbox hb hg_)
    | ((with_reducible refine gate_dst (N := 3) rfl ?_); refine box_event ?hg (N := 3) ?hd (cs := #[.int .i64 lw, .int .i64 lh, .int .i64 p, .slice AL ld.length cl, .int .i64 X, .int .i64 Y, .int .i64 mode, .int .i64 alpha, .bool hid]) (t := 55) ?hr ?_; (case hd => rfl); (case hg => rfl); (case hr => first | (go_simp; done) | (go_simp; rfl)); intro g3 hg_ w2 hbox hb; have HB2 := Aside0.mk (below_then HB1.out HB1.out.size hb); have Kb1 := Aside0.mk hbox; have Gg3 := Aside0.mk (show w.heap.size ≤ g3 from by rw [hg_]; exact HB1.out.size); have Kg1_2 := Aside0.mk (blk_below Kg1_1.out hb); have Kg3_2 := Aside0.mk hbox; clear hbox hb hg_)
    | ((with_reducible refine gate_dst (N := 4) rfl ?_); refine box_event ?hg (N := 4) ?hd (cs := #[.int .i64 0, .int .i64 0, .int .i64 0, .slice none 0 0]) (t := 27) ?hr ?_; (case hd => rfl); (case hg => rfl); (case hr => first | (go_simp; done) | (go_simp; rfl)); intro g2 hg_ w3 hbox hb; have HB3 := Aside0.mk (below_then HB2.out HB2.out.size hb); have Kb2 := Aside0.mk hbox; have Gg2 := Aside0.mk (show w.heap.size ≤ g2 from by rw [hg_]; exact HB2.out.size); have Kg1_3 := Aside0.mk (blk_below Kg1_2.out hb); have Kg3_3 := Aside0.mk (blk_below Kg3_2.out hb); have Kg2_3 := Aside0.mk hbox; have fg1_0 : w3.cell? ⟨g1, 0, none⟩ = some (.int .i64 (a : Int)) := (blk_cell Kg1_3.out 0).trans rfl; have fg1_1 : w3.cell? ⟨g1, 1, none⟩ = some (.int .i64 (b : Int)) := (blk_cell Kg1_3.out 1).trans rfl; have fg1_2 : w3.cell? ⟨g1, 2, none⟩ = some (.int .i64 p) := (blk_cell Kg1_3.out 2).trans rfl; have fg1_3 : w3.cell? ⟨g1, 3, none⟩ = some (.slice A d.length c) := (blk_cell Kg1_3.out 3).trans rfl; have fg3_0 : w3.cell? ⟨g3, 0, none⟩ = some (.int .i64 lw) := (blk_cell Kg3_3.out 0).trans rfl; have fg3_1 : w3.cell? ⟨g3, 1, none⟩ = some (.int .i64 lh) := (blk_cell Kg3_3.out 1).trans rfl; have fg3_2 : w3.cell? ⟨g3, 2, none⟩ = some (.int .i64 p) := (blk_cell Kg3_3.out 2).trans rfl; have fg3_3 : w3.cell? ⟨g3, 3, none⟩ = some (.slice AL ld.length cl) := (blk_cell Kg3_3.out 3).trans rfl; have fg3_4 : w3.cell? ⟨g3, 4, none⟩ = some (.int .i64 X) := (blk_cell Kg3_3.out 4).trans rfl; have fg3_5 : w3.cell? ⟨g3, 5, none⟩ = some (.int .i64 Y) := (blk_cell Kg3_3.out 5).trans rfl; have fg3_6 : w3.cell? ⟨g3, 6, none⟩ = some (.int .i64 mode) := (blk_cell Kg3_3.out 6).trans rfl; have fg3_7 : w3.cell? ⟨g3, 7, none⟩ = some (.int .i64 alpha) := (blk_cell Kg3_3.out 7).trans rfl; have fg3_8 : w3.cell? ⟨g3, 8, none⟩ = some (.bool hid) := (blk_cell Kg3_3.out 8).trans rfl; have fg2_0 : w3.cell? ⟨g2, 0, none⟩ = some (.int .i64 0) := (blk_cell Kg2_3.out 0).trans rfl; have fg2_1 : w3.cell? ⟨g2, 1, none⟩ = some (.int .i64 0) := (blk_cell Kg2_3.out 1).trans rfl; have fg2_2 : w3.cell? ⟨g2, 2, none⟩ = some (.int .i64 0) := (blk_cell Kg2_3.out 2).trans rfl; have fg2_3 : w3.cell? ⟨g2, 3, none⟩ = some (.slice none 0 0) := (blk_cell Kg2_3.out 3).trans rfl; have yg2_0 := blk_frozen Kg2_3.out 0; have yg2_1 := blk_frozen Kg2_3.out 1; have yg2_2 := blk_frozen Kg2_3.out 2; have yg2_3 := blk_frozen Kg2_3.out 3; clear hbox hb hg_)
    | (go_at_call 107; refine (imageBy_calls 142 #[.pointer (some ⟨g1, 0, none⟩), .pointer (some ⟨g3, 0, none⟩)] (coverPx a p d lw lh ld X Y mode alpha) a b p (by omega) (by omega) w3 (enters_of Try.func142 (by kernel_rfl) rfl) HPL.out (fun W x y hx hy hW => cover1_calls a b p A c d HV.out HC.out lw lh X Y mode alpha hid AL cl ld HVL.out HCL.out HXY.out.1 HXY.out.2 x y (by omega) (by omega) g1 g3 W (blk_below Kg1_3.out hW) (blk_below Kg3_3.out hW) (Kd.C_below (Kd.C_below HR.out HB3.out) hW) (Kd.C_below (Kd.C_below HRL.out HB3.out) hW))).mono ?_; rintro e w4 ⟨v4, rfl, hr4, hb_⟩; have HB4 := Aside0.mk (below_then HB3.out HB3.out.size hb_); have Kg1_4 := Aside0.mk (blk_below Kg1_3.out hb_); have eg1_4_0 : w4.cell? ⟨g1, 0, none⟩ = some (.int .i64 (a : Int)) := (blk_cell Kg1_4.out 0).trans rfl; have eg1_4_1 : w4.cell? ⟨g1, 1, none⟩ = some (.int .i64 (b : Int)) := (blk_cell Kg1_4.out 1).trans rfl; have eg1_4_2 : w4.cell? ⟨g1, 2, none⟩ = some (.int .i64 p) := (blk_cell Kg1_4.out 2).trans rfl; have eg1_4_3 : w4.cell? ⟨g1, 3, none⟩ = some (.slice A d.length c) := (blk_cell Kg1_4.out 3).trans rfl; have Kg3_4 := Aside0.mk (blk_below Kg3_3.out hb_); have eg3_4_0 : w4.cell? ⟨g3, 0, none⟩ = some (.int .i64 lw) := (blk_cell Kg3_4.out 0).trans rfl; have eg3_4_1 : w4.cell? ⟨g3, 1, none⟩ = some (.int .i64 lh) := (blk_cell Kg3_4.out 1).trans rfl; have eg3_4_2 : w4.cell? ⟨g3, 2, none⟩ = some (.int .i64 p) := (blk_cell Kg3_4.out 2).trans rfl; have eg3_4_3 : w4.cell? ⟨g3, 3, none⟩ = some (.slice AL ld.length cl) := (blk_cell Kg3_4.out 3).trans rfl; have eg3_4_4 : w4.cell? ⟨g3, 4, none⟩ = some (.int .i64 X) := (blk_cell Kg3_4.out 4).trans rfl; have eg3_4_5 : w4.cell? ⟨g3, 5, none⟩ = some (.int .i64 Y) := (blk_cell Kg3_4.out 5).trans rfl; have eg3_4_6 : w4.cell? ⟨g3, 6, none⟩ = some (.int .i64 mode) := (blk_cell Kg3_4.out 6).trans rfl; have eg3_4_7 : w4.cell? ⟨g3, 7, none⟩ = some (.int .i64 alpha) := (blk_cell Kg3_4.out 7).trans rfl; have eg3_4_8 : w4.cell? ⟨g3, 8, none⟩ = some (.bool hid) := (blk_cell Kg3_4.out 8).trans rfl; have Kg2_4 := Aside0.mk (blk_below Kg2_3.out hb_); have eg2_4_0 : w4.cell? ⟨g2, 0, none⟩ = some (.int .i64 0) := (blk_cell Kg2_4.out 0).trans rfl; have eg2_4_1 : w4.cell? ⟨g2, 1, none⟩ = some (.int .i64 0) := (blk_cell Kg2_4.out 1).trans rfl; have eg2_4_2 : w4.cell? ⟨g2, 2, none⟩ = some (.int .i64 0) := (blk_cell Kg2_4.out 2).trans rfl; have eg2_4_3 : w4.cell? ⟨g2, 3, none⟩ = some (.slice none 0 0) := (blk_cell Kg2_4.out 3).trans rfl; have yg2_4_0 := blk_frozen Kg2_4.out 0; have yg2_4_1 := blk_frozen Kg2_4.out 1; have yg2_4_2 := blk_frozen Kg2_4.out 2; have yg2_4_3 := blk_frozen Kg2_4.out 3; have HR4 := Aside0.mk (Kd.R_lower hr4 HB3.out.size); obtain ⟨A4, c4, ev4⟩ := Kd.R_slice HR4.out; subst ev4; clear hr4 hb_))
  have G2 := Gg2.out
  have RR := Kd.R_types HR4.out Kg2_4.out (by decide)
  refine bodyPost_ret (results_cell_row rfl _ _ g2 27 #[.int .i64 (a : Int), .int .i64 (b : Int), .int .i64 p, .slice A4 (imgD (coverPx a p d lw lh ld X Y mode alpha) a b).length c4] (0, 0) _ rfl (by
    refine blk_put (cs := #[.int .i64 (a : Int), .int .i64 (b : Int), .int .i64 p, .slice none 0 0]) ?_ 3 _ rfl
    refine blk_put (cs := #[.int .i64 (a : Int), .int .i64 (b : Int), .int .i64 0, .slice none 0 0]) ?_ 2 _ rfl
    refine blk_put (cs := #[.int .i64 (a : Int), .int .i64 0, .int .i64 0, .slice none 0 0]) ?_ 1 _ rfl
    refine blk_put (cs := #[.int .i64 0, .int .i64 0, .int .i64 0, .slice none 0 0]) ?_ 0 _ rfl
    exact Kg2_4.out
    ) hu rfl (by kernel_rfl)) rfl ?_
  exact ⟨_, rfl, Kd.R_mono (Kd.R_far (Kd.R_far (Kd.R_far (Kd.R_far RR (fun k hk => hk.2) _) (fun k hk => hk.2) _) (fun k hk => hk.2) _) (fun k hk => hk.2) _) (fun _ _ => trivial), below_set (below_set (below_set (below_set HB4.out (by omega)) (by omega)) (by omega)) (by omega)⟩
theorem impl_coverImage.calls (a b p : Int) (A : Option Addr) (c : Nat) (d : List Int) (lw lh lp : Int) (AL : Option Addr) (cl : Nat) (ld : List Int) (X Y mode alpha : Int) (hid : Bool) (r1 r2 r3 : Int) (r4 : List Int) (w : World) (hr0_3 : Kd.C (Kd.int .i64) w A d.length d) (hc0_3 : d.length ≤ c) (hr1_3 : Kd.C (Kd.int .i64) w AL ld.length ld) (hc1_3 : ld.length ≤ cl) (h : impl_coverImage.f a b p d lw lh lp ld X Y mode alpha hid = some (r1, r2, r3, r4)) :
    Calls Try.prog 105 #[.agg #[.int .i64 a, .int .i64 b, .int .i64 p, .slice A d.length c], .agg #[.int .i64 lw, .int .i64 lh, .int .i64 lp, .slice AL ld.length cl, .int .i64 X, .int .i64 Y, .int .i64 mode, .int .i64 alpha, .bool hid]] w fun e w' => ∃ v3_ : Value, e = .returned (.agg #[.int .i64 r1, .int .i64 r2, .int .i64 r3, v3_]) ∧ Kd.R (Kd.int .i64) 3 w' w.heap.size (fun _ => True) v3_ r4 ∧ Below w.heap.size w w' := by
  unfold impl_coverImage.f at h
  by_cases hc : validI a b p d = true ∧ validI lw lh lp ld = true ∧ lp = p ∧ (-16 ≤ X ∧ X ≤ 16) ∧ (-16 ≤ Y ∧ Y ≤ 16)
  · rw [if_pos hc] at h
    obtain ⟨hv1, hvl, rfl, hX, hY⟩ := hc
    have hs := ((validI_iff a b lp d).1 hv1).1
    obtain ⟨an, rfl⟩ := Int.eq_ofNat_of_zero_le (show 0 ≤ a by omega)
    obtain ⟨bn, rfl⟩ := Int.eq_ofNat_of_zero_le (show 0 ≤ b by omega)
    obtain ⟨rfl, rfl, rfl, rfl⟩ : (an : Int) = r1 ∧ (bn : Int) = r2 ∧ lp = r3 ∧ imgD (coverPx an lp d lw lh ld X Y mode alpha) an bn = r4 := by simpa using h
    exact cover_yes an bn lp A c d lw lh AL cl ld X Y mode alpha hid w hr0_3 hc0_3 hr1_3 hc1_3 hv1 hvl hX hY
  · rw [if_neg hc] at h; cases h
end Go.Proofs.Ytnofkbbcbpjhfaa.Q

namespace Go.Proofs.Ytnofkbbcbpjhfaa.Q
open Go.RowKit Go.Proofs.YtnofkbbcbpjhfaaW.PrintWords Go.Proofs.YtnofkbbcbpjhfaaW.PrintLast Go.Proofs.YtnofkbbcbpjhfaaW.PrintMore
attribute [local go_sem] max2_int min2_int max_two min_two max_three min_three max_four min_four
set_option linter.unusedVariables false
set_option linter.unusedSimpArgs false
def impl_CoverImage.f (a0_0 : Int) (a0_1 : Int) (a0_2 : Int) (l0_3 : List Int) (a1_0 : Int) (a1_1 : Int) (a1_2 : Int) (l1_3 : List Int) (a1_4 : Int) (a1_5 : Int) (a1_6 : Int) (a1_7 : Int) (a1_8 : Bool) : Option (Int × Int × Int × List Int × Bool) := (impl_isImage.f a0_0 a0_1 a0_2 l0_3).bind fun t50004 => (if t50004 = true then ((impl_isLayer.f a1_0 a1_1 a1_2 l1_3 a1_4 a1_5 a1_6 a1_7 a1_8 a0_2).bind fun t50005 => (if t50005 = true then ((impl_coverImage.f a0_0 a0_1 a0_2 l0_3 a1_0 a1_1 a1_2 l1_3 a1_4 a1_5 a1_6 a1_7 a1_8).bind fun bt50006 => (some (bt50006.1, bt50006.2.1, bt50006.2.2.1, bt50006.2.2.2, true))) else (some (0, 0, 0, ([] : List Int), false)))) else (some (0, 0, 0, ([] : List Int), false)))
set_option maxHeartbeats 8000000 in
set_option maxRecDepth 100000 in
theorem impl_CoverImage.calls (a0_0 : Int) (a0_1 : Int) (a0_2 : Int) (A0_3 : Option Addr) (c0_3 : Nat) (l0_3 : List Int) (a1_0 : Int) (a1_1 : Int) (a1_2 : Int) (A1_3 : Option Addr) (c1_3 : Nat) (l1_3 : List Int) (a1_4 : Int) (a1_5 : Int) (a1_6 : Int) (a1_7 : Int) (a1_8 : Bool) (r1 : Int) (r2 : Int) (r3 : Int) (r4 : List Int) (r5 : Bool) (w : World) (hr0_3 : Kd.C (Kd.int .i64) w A0_3 l0_3.length l0_3) (hc0_3 : l0_3.length ≤ c0_3) (hr1_3 : Kd.C (Kd.int .i64) w A1_3 l1_3.length l1_3) (hc1_3 : l1_3.length ≤ c1_3) (h : impl_CoverImage.f a0_0 a0_1 a0_2 l0_3 a1_0 a1_1 a1_2 l1_3 a1_4 a1_5 a1_6 a1_7 a1_8 = some (r1, r2, r3, r4, r5)) :
    Calls Try.prog 49 #[.agg #[.int .i64 a0_0, .int .i64 a0_1, .int .i64 a0_2, .slice A0_3 l0_3.length c0_3], .agg #[.int .i64 a1_0, .int .i64 a1_1, .int .i64 a1_2, .slice A1_3 l1_3.length c1_3, .int .i64 a1_4, .int .i64 a1_5, .int .i64 a1_6, .int .i64 a1_7, .bool a1_8]] w fun e w' => ∃ v3_ : Value, e = .returned (.tuple #[.agg #[.int .i64 r1, .int .i64 r2, .int .i64 r3, v3_], .bool r5]) ∧ Kd.R (Kd.int .i64) 3 w' w.heap.size (fun _ => True) v3_ r4 ∧ Below w.heap.size w w' := by
  have hu27 := Try.underlying27
  have hu55 := Try.underlying55
  have HR0_3 := Aside0.mk hr0_3
  have HC0_3 := Aside0.mk hc0_3
  clear hr0_3 hc0_3
  have HR1_3 := Aside0.mk hr1_3
  have HC1_3 := Aside0.mk hc1_3
  clear hr1_3 hc1_3
  have HB := Aside0.mk (Below.refl w.heap.size w)
  have H : ((impl_isImage.f a0_0 a0_1 a0_2 l0_3).bind fun t50004 => (if t50004 = true then ((impl_isLayer.f a1_0 a1_1 a1_2 l1_3 a1_4 a1_5 a1_6 a1_7 a1_8 a0_2).bind fun t50005 => (if t50005 = true then ((impl_coverImage.f a0_0 a0_1 a0_2 l0_3 a1_0 a1_1 a1_2 l1_3 a1_4 a1_5 a1_6 a1_7 a1_8).bind fun bt50006 => (some (bt50006.1, bt50006.2.1, bt50006.2.2.1, bt50006.2.2.2, true))) else (some (0, 0, 0, ([] : List Int), false)))) else (some (0, 0, 0, ([] : List Int), false)))) = some (r1, r2, r3, r4, r5) := h
  clear h
  replace H := Option.bind_eq_some_iff.mp H
  obtain ⟨t50004, A30, H⟩ := H
  replace H : (if t50004 = true then ((impl_isLayer.f a1_0 a1_1 a1_2 l1_3 a1_4 a1_5 a1_6 a1_7 a1_8 a0_2).bind fun t50005 => (if t50005 = true then ((impl_coverImage.f a0_0 a0_1 a0_2 l0_3 a1_0 a1_1 a1_2 l1_3 a1_4 a1_5 a1_6 a1_7 a1_8).bind fun bt50006 => (some (bt50006.1, bt50006.2.1, bt50006.2.2.1, bt50006.2.2.2, true))) else (some (0, 0, 0, ([] : List Int), false)))) else (some (0, 0, 0, ([] : List Int), false))) = some (r1, r2, r3, r4, r5) := H
  have A3 := Aside0.mk A30
  clear A30
  by_cases c4 : t50004 = true
  · subst c4
    have H1 : ((impl_isLayer.f a1_0 a1_1 a1_2 l1_3 a1_4 a1_5 a1_6 a1_7 a1_8 a0_2).bind fun t50005 => (if t50005 = true then ((impl_coverImage.f a0_0 a0_1 a0_2 l0_3 a1_0 a1_1 a1_2 l1_3 a1_4 a1_5 a1_6 a1_7 a1_8).bind fun bt50006 => (some (bt50006.1, bt50006.2.1, bt50006.2.2.1, bt50006.2.2.2, true))) else (some (0, 0, 0, ([] : List Int), false)))) = some (r1, r2, r3, r4, r5) := by rw [if_pos rfl] at H; exact H
    clear H
    have H := H1
    clear H1
    replace H := Option.bind_eq_some_iff.mp H
    obtain ⟨t50005, A50, H⟩ := H
    replace H : (if t50005 = true then ((impl_coverImage.f a0_0 a0_1 a0_2 l0_3 a1_0 a1_1 a1_2 l1_3 a1_4 a1_5 a1_6 a1_7 a1_8).bind fun bt50006 => (some (bt50006.1, bt50006.2.1, bt50006.2.2.1, bt50006.2.2.2, true))) else (some (0, 0, 0, ([] : List Int), false))) = some (r1, r2, r3, r4, r5) := H
    have A5 := Aside0.mk A50
    clear A50
    by_cases c6 : t50005 = true
    · subst c6
      have H1 : ((impl_coverImage.f a0_0 a0_1 a0_2 l0_3 a1_0 a1_1 a1_2 l1_3 a1_4 a1_5 a1_6 a1_7 a1_8).bind fun bt50006 => (some (bt50006.1, bt50006.2.1, bt50006.2.2.1, bt50006.2.2.2, true))) = some (r1, r2, r3, r4, r5) := by rw [if_pos rfl] at H; exact H
      clear H
      have H := H1
      clear H1
      replace H := Option.bind_eq_some_iff.mp H
      obtain ⟨⟨t50006, t50007, t50008, t50009⟩, A70, H⟩ := H
      replace H : (some (t50006, t50007, t50008, t50009, true)) = some (r1, r2, r3, r4, r5) := H
      have A7 := Aside0.mk A70
      clear A70
      simp only [Option.some.injEq, Prod.mk.injEq] at H
      obtain ⟨rfl, rfl, rfl, rfl, rfl⟩ := H
      go_enter Try.func49, Try.ntmps49
      go_wp2_with (first | ((with_reducible refine gate_dst (N := 2) rfl ?_); refine box_event ?hg (N := 2) ?hd (cs := #[.int .i64 a0_0, .int .i64 a0_1, .int .i64 a0_2, .slice A0_3 l0_3.length c0_3]) (t := 27) ?hr ?_; (case hd => rfl); (case hg => rfl); (case hr => first | (go_simp; done) | (go_simp; rfl)); intro gb50001 hg w8 hbox hb; have n0_ := Aside0.mk (below_step (by repeat (first | (with_reducible first | exact HB.out | apply below_alloc | apply pw_below_drewN | apply below_drew1) | exact HB.out)) hb); have n1_ := Aside0.mk (hbox); have n2_ := Aside0.mk ((by rw [hg]; exact (below_size (by repeat (first | (with_reducible first | exact HB.out | apply below_alloc | apply pw_below_drewN | apply below_drew1) | exact HB.out))) : w.heap.size ≤ gb50001)); have n3_ := Aside0.mk ((by rw [hg]; exact (below_size (by repeat (first | (with_reducible first | exact HB.out | apply below_alloc | apply pw_below_drewN | apply below_drew1) | exact HB.out))) : w.heap.size ≤ gb50001)); clear HB; have HB := n0_; have BK50001 := n1_; have GW50001 := n2_; have GE50001 := n3_; clear n0_ n1_ n2_ n3_; clear hb hbox hg) | ((with_reducible refine gate_dst (N := 3) rfl ?_); refine box_event ?hg (N := 3) ?hd (cs := #[.int .i64 a1_0, .int .i64 a1_1, .int .i64 a1_2, .slice A1_3 l1_3.length c1_3, .int .i64 a1_4, .int .i64 a1_5, .int .i64 a1_6, .int .i64 a1_7, .bool a1_8]) (t := 55) ?hr ?_; (case hd => rfl); (case hg => rfl); (case hr => first | (go_simp; done) | (go_simp; rfl)); intro gb50002 hg w9 hbox hb; have n0_ := Aside0.mk (blk_below (g := gb50001) (o := .cells #[.int .i64 a0_0, .int .i64 a0_1, .int .i64 a0_2, .slice A0_3 l0_3.length c0_3] 27 (0, 0)) (by (with_reducible repeat (first | refine blk_drewN ?_ _ | refine blk_drew ?_ | refine blk_alloc ?_ _)); exact BK50001.out) hb); have n1_ := Aside0.mk (below_step (by repeat (first | (with_reducible first | exact HB.out | apply below_alloc | apply pw_below_drewN | apply below_drew1 | refine below_set ?_ GE50001.out) | exact HB.out)) hb); have n2_ := Aside0.mk (hbox); have n3_ := Aside0.mk ((by rw [hg]; exact (below_size (by repeat (first | (with_reducible first | exact HB.out | apply below_alloc | apply pw_below_drewN | apply below_drew1 | refine below_set ?_ GE50001.out) | exact HB.out))) : w.heap.size ≤ gb50002)); have n4_ := Aside0.mk ((by rw [hg]; exact (below_size (by repeat (first | (with_reducible first | exact HB.out | apply below_alloc | apply pw_below_drewN | apply below_drew1 | refine below_set ?_ GE50001.out) | exact HB.out))) : w.heap.size ≤ gb50002)); have n5_ := Aside0.mk ((by rw [hg]; exact Nat.ne_of_lt (blk_lt (g := gb50001) (o := .cells #[.int .i64 a0_0, .int .i64 a0_1, .int .i64 a0_2, .slice A0_3 l0_3.length c0_3] 27 (0, 0)) (by (with_reducible repeat (first | refine blk_drewN ?_ _ | refine blk_drew ?_ | refine blk_alloc ?_ _)); exact BK50001.out)) : gb50001 ≠ gb50002)); have n6_ := Aside0.mk ((by rw [hg]; exact Nat.ne_of_gt (blk_lt (g := gb50001) (o := .cells #[.int .i64 a0_0, .int .i64 a0_1, .int .i64 a0_2, .slice A0_3 l0_3.length c0_3] 27 (0, 0)) (by (with_reducible repeat (first | refine blk_drewN ?_ _ | refine blk_drew ?_ | refine blk_alloc ?_ _)); exact BK50001.out)) : gb50002 ≠ gb50001)); clear BK50001; clear HB; have BK50001 := n0_; have HB := n1_; have BK50002 := n2_; have GW50002 := n3_; have GE50002 := n4_; have NB50001_50002 := n5_; have NB50002_50001 := n6_; clear n0_ n1_ n2_ n3_ n4_ n5_ n6_; clear hb hbox hg) | ((with_reducible refine gate_dst (N := 4) rfl ?_); refine box_event ?hg (N := 4) ?hd (cs := #[.int .i64 0, .int .i64 0, .int .i64 0, .slice none 0 0]) (t := 27) ?hr ?_; (case hd => rfl); (case hg => rfl); (case hr => first | (go_simp; done) | (go_simp; rfl)); intro gb50003 hg w10 hbox hb; have n0_ := Aside0.mk (blk_below (g := gb50001) (o := .cells #[.int .i64 a0_0, .int .i64 a0_1, .int .i64 a0_2, .slice A0_3 l0_3.length c0_3] 27 (0, 0)) (by (with_reducible repeat (first | refine blk_drewN ?_ _ | refine blk_drew ?_ | refine blk_alloc ?_ _)); exact BK50001.out) hb); have n1_ := Aside0.mk (blk_below (g := gb50002) (o := .cells #[.int .i64 a1_0, .int .i64 a1_1, .int .i64 a1_2, .slice A1_3 l1_3.length c1_3, .int .i64 a1_4, .int .i64 a1_5, .int .i64 a1_6, .int .i64 a1_7, .bool a1_8] 55 (0, 0)) (by (with_reducible repeat (first | refine blk_drewN ?_ _ | refine blk_drew ?_ | refine blk_alloc ?_ _)); exact BK50002.out) hb); have n2_ := Aside0.mk (below_step (by repeat (first | (with_reducible first | exact HB.out | apply below_alloc | apply pw_below_drewN | apply below_drew1 | refine below_set ?_ GE50001.out | refine below_set ?_ GE50002.out) | exact HB.out)) hb); have n3_ := Aside0.mk (hbox); have n4_ := Aside0.mk ((by rw [hg]; exact (below_size (by repeat (first | (with_reducible first | exact HB.out | apply below_alloc | apply pw_below_drewN | apply below_drew1 | refine below_set ?_ GE50001.out | refine below_set ?_ GE50002.out) | exact HB.out))) : w.heap.size ≤ gb50003)); have n5_ := Aside0.mk ((by rw [hg]; exact (below_size (by repeat (first | (with_reducible first | exact HB.out | apply below_alloc | apply pw_below_drewN | apply below_drew1 | refine below_set ?_ GE50001.out | refine below_set ?_ GE50002.out) | exact HB.out))) : w.heap.size ≤ gb50003)); have n6_ := Aside0.mk ((by rw [hg]; exact Nat.ne_of_lt (blk_lt (g := gb50001) (o := .cells #[.int .i64 a0_0, .int .i64 a0_1, .int .i64 a0_2, .slice A0_3 l0_3.length c0_3] 27 (0, 0)) (by (with_reducible repeat (first | refine blk_drewN ?_ _ | refine blk_drew ?_ | refine blk_alloc ?_ _)); exact BK50001.out)) : gb50001 ≠ gb50003)); have n7_ := Aside0.mk ((by rw [hg]; exact Nat.ne_of_gt (blk_lt (g := gb50001) (o := .cells #[.int .i64 a0_0, .int .i64 a0_1, .int .i64 a0_2, .slice A0_3 l0_3.length c0_3] 27 (0, 0)) (by (with_reducible repeat (first | refine blk_drewN ?_ _ | refine blk_drew ?_ | refine blk_alloc ?_ _)); exact BK50001.out)) : gb50003 ≠ gb50001)); have n8_ := Aside0.mk ((by rw [hg]; exact Nat.ne_of_lt (blk_lt (g := gb50002) (o := .cells #[.int .i64 a1_0, .int .i64 a1_1, .int .i64 a1_2, .slice A1_3 l1_3.length c1_3, .int .i64 a1_4, .int .i64 a1_5, .int .i64 a1_6, .int .i64 a1_7, .bool a1_8] 55 (0, 0)) (by (with_reducible repeat (first | refine blk_drewN ?_ _ | refine blk_drew ?_ | refine blk_alloc ?_ _)); exact BK50002.out)) : gb50002 ≠ gb50003)); have n9_ := Aside0.mk ((by rw [hg]; exact Nat.ne_of_gt (blk_lt (g := gb50002) (o := .cells #[.int .i64 a1_0, .int .i64 a1_1, .int .i64 a1_2, .slice A1_3 l1_3.length c1_3, .int .i64 a1_4, .int .i64 a1_5, .int .i64 a1_6, .int .i64 a1_7, .bool a1_8] 55 (0, 0)) (by (with_reducible repeat (first | refine blk_drewN ?_ _ | refine blk_drew ?_ | refine blk_alloc ?_ _)); exact BK50002.out)) : gb50003 ≠ gb50002)); clear BK50001; clear BK50002; clear HB; have BK50001 := n0_; have BK50002 := n1_; have HB := n2_; have BK50003 := n3_; have GW50003 := n4_; have GE50003 := n5_; have NB50001_50003 := n6_; have NB50003_50001 := n7_; have NB50002_50003 := n8_; have NB50003_50002 := n9_; clear n0_ n1_ n2_ n3_ n4_ n5_ n6_ n7_ n8_ n9_; clear hb hbox hg; have hnb11 := NB50001_50002.out; have hnc11 := NB50002_50001.out; have hnb12 := NB50001_50003.out; have hnc12 := NB50003_50001.out; have hcz13_0 : w10.cell? ⟨gb50001, 0, none⟩ = some (.int .i64 a0_0) := (blk_cell BK50001.out 0).trans rfl; have hcz13_1 : w10.cell? ⟨gb50001, 1, none⟩ = some (.int .i64 a0_1) := (blk_cell BK50001.out 1).trans rfl; have hcz13_2 : w10.cell? ⟨gb50001, 2, none⟩ = some (.int .i64 a0_2) := (blk_cell BK50001.out 2).trans rfl; have hcz13_3 : w10.cell? ⟨gb50001, 3, none⟩ = some (.slice A0_3 l0_3.length c0_3) := (blk_cell BK50001.out 3).trans rfl; have hfz13_0 := blk_frozen BK50001.out 0; have hfz13_1 := blk_frozen BK50001.out 1; have hfz13_2 := blk_frozen BK50001.out 2; have hfz13_3 := blk_frozen BK50001.out 3) | ((with_reducible refine gate_callee (f := 83) rfl ?_); refine goesL_ (some 7) rfl rfl Try.func83 (by kernel_rfl) rfl #[.agg #[.int .i64 a0_0, .int .i64 a0_1, .int .i64 a0_2, .slice A0_3 l0_3.length c0_3]] rfl (by (try simp only [List.map_toArray, List.map_cons, List.map_nil]); first | done | rfl | (simp only [List.length_drop, List.length_take]; rfl)) ?_; (with_reducible refine (impl_isImage.calls a0_0 a0_1 a0_2 _ _ l0_3 true _ ?side1 ?side2 A3.out).mono ?_); (case side1 => repeat (first | exact (Kd.C_below HR0_3.out HB.out) | (with_reducible refine Kd.C_alloc ?_ _) | (with_reducible refine Kd.C_drewN ?_ _) | (with_reducible refine Kd.C_drew ?_))); (case side2 => exact HC0_3.out); rintro e w14 ⟨rfl, hb⟩; refine ⟨_, rfl, ?_⟩; have n0_ := Aside0.mk (blk_below (g := gb50001) (o := .cells #[.int .i64 a0_0, .int .i64 a0_1, .int .i64 a0_2, .slice A0_3 l0_3.length c0_3] 27 (0, 0)) (by (with_reducible repeat (first | refine blk_drewN ?_ _ | refine blk_drew ?_ | refine blk_alloc ?_ _)); exact BK50001.out) hb); have n1_ := Aside0.mk (blk_below (g := gb50002) (o := .cells #[.int .i64 a1_0, .int .i64 a1_1, .int .i64 a1_2, .slice A1_3 l1_3.length c1_3, .int .i64 a1_4, .int .i64 a1_5, .int .i64 a1_6, .int .i64 a1_7, .bool a1_8] 55 (0, 0)) (by (with_reducible repeat (first | refine blk_drewN ?_ _ | refine blk_drew ?_ | refine blk_alloc ?_ _)); exact BK50002.out) hb); have n2_ := Aside0.mk (blk_below (g := gb50003) (o := .cells #[.int .i64 0, .int .i64 0, .int .i64 0, .slice none 0 0] 27 (0, 0)) (by (with_reducible repeat (first | refine blk_drewN ?_ _ | refine blk_drew ?_ | refine blk_alloc ?_ _)); exact BK50003.out) hb); have n3_ := Aside0.mk (below_step (by repeat (first | (with_reducible first | exact HB.out | apply below_alloc | apply pw_below_drewN | apply below_drew1 | refine below_set ?_ GE50001.out | refine below_set ?_ GE50002.out | refine below_set ?_ GE50003.out) | exact HB.out)) hb); clear BK50001; clear BK50002; clear BK50003; clear HB; have BK50001 := n0_; have BK50002 := n1_; have BK50003 := n2_; have HB := n3_; clear n0_ n1_ n2_ n3_; (try clear hb); (try clear hb2); (try clear hk); (try clear hi); have hnb15 := NB50002_50003.out; have hnc15 := NB50003_50002.out; have hcz16_0 : w14.cell? ⟨gb50002, 0, none⟩ = some (.int .i64 a1_0) := (blk_cell BK50002.out 0).trans rfl; have hcz16_1 : w14.cell? ⟨gb50002, 1, none⟩ = some (.int .i64 a1_1) := (blk_cell BK50002.out 1).trans rfl; have hcz16_2 : w14.cell? ⟨gb50002, 2, none⟩ = some (.int .i64 a1_2) := (blk_cell BK50002.out 2).trans rfl; have hcz16_3 : w14.cell? ⟨gb50002, 3, none⟩ = some (.slice A1_3 l1_3.length c1_3) := (blk_cell BK50002.out 3).trans rfl; have hcz16_4 : w14.cell? ⟨gb50002, 4, none⟩ = some (.int .i64 a1_4) := (blk_cell BK50002.out 4).trans rfl; have hcz16_5 : w14.cell? ⟨gb50002, 5, none⟩ = some (.int .i64 a1_5) := (blk_cell BK50002.out 5).trans rfl; have hcz16_6 : w14.cell? ⟨gb50002, 6, none⟩ = some (.int .i64 a1_6) := (blk_cell BK50002.out 6).trans rfl; have hcz16_7 : w14.cell? ⟨gb50002, 7, none⟩ = some (.int .i64 a1_7) := (blk_cell BK50002.out 7).trans rfl; have hcz16_8 : w14.cell? ⟨gb50002, 8, none⟩ = some (.bool a1_8) := (blk_cell BK50002.out 8).trans rfl; have hfz16_0 := blk_frozen BK50002.out 0; have hfz16_1 := blk_frozen BK50002.out 1; have hfz16_2 := blk_frozen BK50002.out 2; have hfz16_3 := blk_frozen BK50002.out 3; have hfz16_4 := blk_frozen BK50002.out 4; have hfz16_5 := blk_frozen BK50002.out 5; have hfz16_6 := blk_frozen BK50002.out 6; have hfz16_7 := blk_frozen BK50002.out 7; have hfz16_8 := blk_frozen BK50002.out 8; have hcz17_0 : w14.cell? ⟨gb50001, 0, none⟩ = some (.int .i64 a0_0) := (blk_cell BK50001.out 0).trans rfl; have hcz17_1 : w14.cell? ⟨gb50001, 1, none⟩ = some (.int .i64 a0_1) := (blk_cell BK50001.out 1).trans rfl; have hcz17_2 : w14.cell? ⟨gb50001, 2, none⟩ = some (.int .i64 a0_2) := (blk_cell BK50001.out 2).trans rfl; have hcz17_3 : w14.cell? ⟨gb50001, 3, none⟩ = some (.slice A0_3 l0_3.length c0_3) := (blk_cell BK50001.out 3).trans rfl; have hfz17_0 := blk_frozen BK50001.out 0; have hfz17_1 := blk_frozen BK50001.out 1; have hfz17_2 := blk_frozen BK50001.out 2; have hfz17_3 := blk_frozen BK50001.out 3) | (go_at_call 103; (with_reducible refine (impl_isLayer.calls a1_0 a1_1 a1_2 _ _ l1_3 a1_4 a1_5 a1_6 a1_7 a1_8 a0_2 true _ ?side1 ?side2 A5.out).mono ?_); (case side1 => repeat (first | exact (Kd.C_below HR1_3.out HB.out) | (with_reducible refine Kd.C_alloc ?_ _) | (with_reducible refine Kd.C_drewN ?_ _) | (with_reducible refine Kd.C_drew ?_))); (case side2 => exact HC1_3.out); rintro e w18 ⟨rfl, hb⟩; have n0_ := Aside0.mk (blk_below (g := gb50001) (o := .cells #[.int .i64 a0_0, .int .i64 a0_1, .int .i64 a0_2, .slice A0_3 l0_3.length c0_3] 27 (0, 0)) (by (with_reducible repeat (first | refine blk_drewN ?_ _ | refine blk_drew ?_ | refine blk_alloc ?_ _)); exact BK50001.out) hb); have n1_ := Aside0.mk (blk_below (g := gb50002) (o := .cells #[.int .i64 a1_0, .int .i64 a1_1, .int .i64 a1_2, .slice A1_3 l1_3.length c1_3, .int .i64 a1_4, .int .i64 a1_5, .int .i64 a1_6, .int .i64 a1_7, .bool a1_8] 55 (0, 0)) (by (with_reducible repeat (first | refine blk_drewN ?_ _ | refine blk_drew ?_ | refine blk_alloc ?_ _)); exact BK50002.out) hb); have n2_ := Aside0.mk (blk_below (g := gb50003) (o := .cells #[.int .i64 0, .int .i64 0, .int .i64 0, .slice none 0 0] 27 (0, 0)) (by (with_reducible repeat (first | refine blk_drewN ?_ _ | refine blk_drew ?_ | refine blk_alloc ?_ _)); exact BK50003.out) hb); have n3_ := Aside0.mk (below_step (by repeat (first | (with_reducible first | exact HB.out | apply below_alloc | apply pw_below_drewN | apply below_drew1 | refine below_set ?_ GE50001.out | refine below_set ?_ GE50002.out | refine below_set ?_ GE50003.out) | exact HB.out)) hb); clear BK50001; clear BK50002; clear BK50003; clear HB; have BK50001 := n0_; have BK50002 := n1_; have BK50003 := n2_; have HB := n3_; clear n0_ n1_ n2_ n3_; (try clear hb); (try clear hb2); (try clear hk); (try clear hi); have hcz19_0 : w18.cell? ⟨gb50001, 0, none⟩ = some (.int .i64 a0_0) := (blk_cell BK50001.out 0).trans rfl; have hcz19_1 : w18.cell? ⟨gb50001, 1, none⟩ = some (.int .i64 a0_1) := (blk_cell BK50001.out 1).trans rfl; have hcz19_2 : w18.cell? ⟨gb50001, 2, none⟩ = some (.int .i64 a0_2) := (blk_cell BK50001.out 2).trans rfl; have hcz19_3 : w18.cell? ⟨gb50001, 3, none⟩ = some (.slice A0_3 l0_3.length c0_3) := (blk_cell BK50001.out 3).trans rfl; have hfz19_0 := blk_frozen BK50001.out 0; have hfz19_1 := blk_frozen BK50001.out 1; have hfz19_2 := blk_frozen BK50001.out 2; have hfz19_3 := blk_frozen BK50001.out 3; have hcz20_0 : w18.cell? ⟨gb50002, 0, none⟩ = some (.int .i64 a1_0) := (blk_cell BK50002.out 0).trans rfl; have hcz20_1 : w18.cell? ⟨gb50002, 1, none⟩ = some (.int .i64 a1_1) := (blk_cell BK50002.out 1).trans rfl; have hcz20_2 : w18.cell? ⟨gb50002, 2, none⟩ = some (.int .i64 a1_2) := (blk_cell BK50002.out 2).trans rfl; have hcz20_3 : w18.cell? ⟨gb50002, 3, none⟩ = some (.slice A1_3 l1_3.length c1_3) := (blk_cell BK50002.out 3).trans rfl; have hcz20_4 : w18.cell? ⟨gb50002, 4, none⟩ = some (.int .i64 a1_4) := (blk_cell BK50002.out 4).trans rfl; have hcz20_5 : w18.cell? ⟨gb50002, 5, none⟩ = some (.int .i64 a1_5) := (blk_cell BK50002.out 5).trans rfl; have hcz20_6 : w18.cell? ⟨gb50002, 6, none⟩ = some (.int .i64 a1_6) := (blk_cell BK50002.out 6).trans rfl; have hcz20_7 : w18.cell? ⟨gb50002, 7, none⟩ = some (.int .i64 a1_7) := (blk_cell BK50002.out 7).trans rfl; have hcz20_8 : w18.cell? ⟨gb50002, 8, none⟩ = some (.bool a1_8) := (blk_cell BK50002.out 8).trans rfl; have hfz20_0 := blk_frozen BK50002.out 0; have hfz20_1 := blk_frozen BK50002.out 1; have hfz20_2 := blk_frozen BK50002.out 2; have hfz20_3 := blk_frozen BK50002.out 3; have hfz20_4 := blk_frozen BK50002.out 4; have hfz20_5 := blk_frozen BK50002.out 5; have hfz20_6 := blk_frozen BK50002.out 6; have hfz20_7 := blk_frozen BK50002.out 7; have hfz20_8 := blk_frozen BK50002.out 8) | ((with_reducible refine gate_callee (f := 105) rfl ?_); refine goesL_ (some 19) rfl rfl Try.func105 (by kernel_rfl) rfl #[.agg #[.int .i64 a0_0, .int .i64 a0_1, .int .i64 a0_2, .slice A0_3 l0_3.length c0_3], .agg #[.int .i64 a1_0, .int .i64 a1_1, .int .i64 a1_2, .slice A1_3 l1_3.length c1_3, .int .i64 a1_4, .int .i64 a1_5, .int .i64 a1_6, .int .i64 a1_7, .bool a1_8]] rfl (by (try simp only [List.map_toArray, List.map_cons, List.map_nil]); first | done | rfl | (simp only [List.length_drop, List.length_take]; rfl)) ?_; (with_reducible refine (impl_coverImage.calls a0_0 a0_1 a0_2 _ _ l0_3 a1_0 a1_1 a1_2 _ _ l1_3 a1_4 a1_5 a1_6 a1_7 a1_8 t50006 t50007 t50008 t50009 _ ?side1 ?side2 ?side3 ?side4 A7.out).mono ?_); (case side1 => repeat (first | exact (Kd.C_below HR0_3.out HB.out) | (with_reducible refine Kd.C_alloc ?_ _) | (with_reducible refine Kd.C_drewN ?_ _) | (with_reducible refine Kd.C_drew ?_))); (case side2 => exact HC0_3.out); (case side3 => repeat (first | exact (Kd.C_below HR1_3.out HB.out) | (with_reducible refine Kd.C_alloc ?_ _) | (with_reducible refine Kd.C_drewN ?_ _) | (with_reducible refine Kd.C_drew ?_))); (case side4 => exact HC1_3.out); rintro e w21 ⟨v50010, rfl, ho0, hb⟩; refine ⟨_, rfl, ?_⟩; have n0_ := Aside0.mk (Kd.R_lower ho0 (below_size (by repeat (first | (with_reducible first | exact HB.out | apply below_alloc | apply pw_below_drewN | apply below_drew1 | refine below_set ?_ GE50001.out | refine below_set ?_ GE50002.out | refine below_set ?_ GE50003.out) | exact HB.out)))); have n1_ := Aside0.mk (blk_below (g := gb50001) (o := .cells #[.int .i64 a0_0, .int .i64 a0_1, .int .i64 a0_2, .slice A0_3 l0_3.length c0_3] 27 (0, 0)) (by (with_reducible repeat (first | refine blk_drewN ?_ _ | refine blk_drew ?_ | refine blk_alloc ?_ _)); exact BK50001.out) hb); have n2_ := Aside0.mk (blk_below (g := gb50002) (o := .cells #[.int .i64 a1_0, .int .i64 a1_1, .int .i64 a1_2, .slice A1_3 l1_3.length c1_3, .int .i64 a1_4, .int .i64 a1_5, .int .i64 a1_6, .int .i64 a1_7, .bool a1_8] 55 (0, 0)) (by (with_reducible repeat (first | refine blk_drewN ?_ _ | refine blk_drew ?_ | refine blk_alloc ?_ _)); exact BK50002.out) hb); have n3_ := Aside0.mk (blk_below (g := gb50003) (o := .cells #[.int .i64 0, .int .i64 0, .int .i64 0, .slice none 0 0] 27 (0, 0)) (by (with_reducible repeat (first | refine blk_drewN ?_ _ | refine blk_drew ?_ | refine blk_alloc ?_ _)); exact BK50003.out) hb); have n4_ := Aside0.mk (below_step (by repeat (first | (with_reducible first | exact HB.out | apply below_alloc | apply pw_below_drewN | apply below_drew1 | refine below_set ?_ GE50001.out | refine below_set ?_ GE50002.out | refine below_set ?_ GE50003.out) | exact HB.out)) hb); clear BK50001; clear BK50002; clear BK50003; clear HB; have HO50011 := n0_; have BK50001 := n1_; have BK50002 := n2_; have BK50003 := n3_; have HB := n4_; clear n0_ n1_ n2_ n3_ n4_; (try clear hb); (try clear hb2); (try clear hk); (try clear hi); (try clear ho0); have hcz22_0 : w21.cell? ⟨gb50003, 0, none⟩ = some (.int .i64 0) := (blk_cell BK50003.out 0).trans rfl; have hcz22_1 : w21.cell? ⟨gb50003, 1, none⟩ = some (.int .i64 0) := (blk_cell BK50003.out 1).trans rfl; have hcz22_2 : w21.cell? ⟨gb50003, 2, none⟩ = some (.int .i64 0) := (blk_cell BK50003.out 2).trans rfl; have hcz22_3 : w21.cell? ⟨gb50003, 3, none⟩ = some (.slice none 0 0) := (blk_cell BK50003.out 3).trans rfl; have hfz22_0 := blk_frozen BK50003.out 0; have hfz22_1 := blk_frozen BK50003.out 1; have hfz22_2 := blk_frozen BK50003.out 2; have hfz22_3 := blk_frozen BK50003.out 3; obtain ⟨Ao23, co23, eo23⟩ := Kd.R_slice HO50011.out; subst eo23))
      refine bodyPost_ret (results_ct rfl _ _ gb50003 27 #[.int .i64 t50006, .int .i64 t50007, .int .i64 t50008, .slice Ao23 t50009.length co23] (0, 0) _ rfl (by (with_reducible repeat (first | refine blk_drewN ?_ _ | refine blk_drew ?_ | refine blk_alloc ?_ _)); refine blk_put (cs := #[.int .i64 t50006, .int .i64 t50007, .int .i64 t50008, .slice none 0 0]) ?_ 3 _ rfl; (with_reducible repeat (first | refine blk_drewN ?_ _ | refine blk_drew ?_ | refine blk_alloc ?_ _)); refine blk_put (cs := #[.int .i64 t50006, .int .i64 t50007, .int .i64 0, .slice none 0 0]) ?_ 2 _ rfl; (with_reducible repeat (first | refine blk_drewN ?_ _ | refine blk_drew ?_ | refine blk_alloc ?_ _)); refine blk_put (cs := #[.int .i64 t50006, .int .i64 0, .int .i64 0, .slice none 0 0]) ?_ 1 _ rfl; (with_reducible repeat (first | refine blk_drewN ?_ _ | refine blk_drew ?_ | refine blk_alloc ?_ _)); refine blk_put (cs := #[.int .i64 0, .int .i64 0, .int .i64 0, .slice none 0 0]) ?_ 0 _ rfl; (with_reducible repeat (first | refine blk_drewN ?_ _ | refine blk_drew ?_ | refine blk_alloc ?_ _)); exact BK50003.out) Try.underlying27 rfl (by kernel_rfl)) rfl ?_
      exact ⟨_, by first | rfl | (simp [errW_none, errW_some] <;> rfl) | (simp [*, errW_none, errW_some] <;> rfl), by (with_reducible repeat (first | apply Kd.R_alloc | apply Kd.R_drewN | apply Kd.R_drew)); exact Kd.R_mono (Kd.R_far (p := ⟨gb50003, 3, none⟩) (Kd.R_far (p := ⟨gb50003, 2, none⟩) (Kd.R_far (p := ⟨gb50003, 1, none⟩) (Kd.R_far (p := ⟨gb50003, 0, none⟩) (Kd.R_types HO50011.out BK50003.out (by decide)) (fun _ hk => hk.2) (.int .i64 t50006)) (fun _ hk => hk.2) (.int .i64 t50007)) (fun _ hk => hk.2) (.int .i64 t50008)) (fun _ hk => hk.2) (.slice Ao23 t50009.length co23)) (fun _ hk => trivial), by repeat (first | (with_reducible first | exact HB.out | apply below_alloc | apply pw_below_drewN | apply below_drew1 | refine below_set ?_ GE50001.out | refine below_set ?_ GE50002.out | refine below_set ?_ GE50003.out) | exact HB.out)⟩
    · replace c6 := Bool.eq_false_iff.mpr c6
      subst c6
      have H1 : (some (0, 0, 0, ([] : List Int), false)) = some (r1, r2, r3, r4, r5) := by rw [if_neg (show ¬ (false = true) by decide)] at H; exact H
      clear H
      have H := H1
      clear H1
      simp only [Option.some.injEq, Prod.mk.injEq] at H
      obtain ⟨rfl, rfl, rfl, rfl, rfl⟩ := H
      go_enter Try.func49, Try.ntmps49
      go_wp2_with (first | ((with_reducible refine gate_dst (N := 2) rfl ?_); refine box_event ?hg (N := 2) ?hd (cs := #[.int .i64 a0_0, .int .i64 a0_1, .int .i64 a0_2, .slice A0_3 l0_3.length c0_3]) (t := 27) ?hr ?_; (case hd => rfl); (case hg => rfl); (case hr => first | (go_simp; done) | (go_simp; rfl)); intro gb50001 hg w24 hbox hb; have n0_ := Aside0.mk (below_step (by repeat (first | (with_reducible first | exact HB.out | apply below_alloc | apply pw_below_drewN | apply below_drew1) | exact HB.out)) hb); have n1_ := Aside0.mk (hbox); have n2_ := Aside0.mk ((by rw [hg]; exact (below_size (by repeat (first | (with_reducible first | exact HB.out | apply below_alloc | apply pw_below_drewN | apply below_drew1) | exact HB.out))) : w.heap.size ≤ gb50001)); have n3_ := Aside0.mk ((by rw [hg]; exact (below_size (by repeat (first | (with_reducible first | exact HB.out | apply below_alloc | apply pw_below_drewN | apply below_drew1) | exact HB.out))) : w.heap.size ≤ gb50001)); clear HB; have HB := n0_; have BK50001 := n1_; have GW50001 := n2_; have GE50001 := n3_; clear n0_ n1_ n2_ n3_; clear hb hbox hg) | ((with_reducible refine gate_dst (N := 3) rfl ?_); refine box_event ?hg (N := 3) ?hd (cs := #[.int .i64 a1_0, .int .i64 a1_1, .int .i64 a1_2, .slice A1_3 l1_3.length c1_3, .int .i64 a1_4, .int .i64 a1_5, .int .i64 a1_6, .int .i64 a1_7, .bool a1_8]) (t := 55) ?hr ?_; (case hd => rfl); (case hg => rfl); (case hr => first | (go_simp; done) | (go_simp; rfl)); intro gb50002 hg w25 hbox hb; have n0_ := Aside0.mk (blk_below (g := gb50001) (o := .cells #[.int .i64 a0_0, .int .i64 a0_1, .int .i64 a0_2, .slice A0_3 l0_3.length c0_3] 27 (0, 0)) (by (with_reducible repeat (first | refine blk_drewN ?_ _ | refine blk_drew ?_ | refine blk_alloc ?_ _)); exact BK50001.out) hb); have n1_ := Aside0.mk (below_step (by repeat (first | (with_reducible first | exact HB.out | apply below_alloc | apply pw_below_drewN | apply below_drew1 | refine below_set ?_ GE50001.out) | exact HB.out)) hb); have n2_ := Aside0.mk (hbox); have n3_ := Aside0.mk ((by rw [hg]; exact (below_size (by repeat (first | (with_reducible first | exact HB.out | apply below_alloc | apply pw_below_drewN | apply below_drew1 | refine below_set ?_ GE50001.out) | exact HB.out))) : w.heap.size ≤ gb50002)); have n4_ := Aside0.mk ((by rw [hg]; exact (below_size (by repeat (first | (with_reducible first | exact HB.out | apply below_alloc | apply pw_below_drewN | apply below_drew1 | refine below_set ?_ GE50001.out) | exact HB.out))) : w.heap.size ≤ gb50002)); have n5_ := Aside0.mk ((by rw [hg]; exact Nat.ne_of_lt (blk_lt (g := gb50001) (o := .cells #[.int .i64 a0_0, .int .i64 a0_1, .int .i64 a0_2, .slice A0_3 l0_3.length c0_3] 27 (0, 0)) (by (with_reducible repeat (first | refine blk_drewN ?_ _ | refine blk_drew ?_ | refine blk_alloc ?_ _)); exact BK50001.out)) : gb50001 ≠ gb50002)); have n6_ := Aside0.mk ((by rw [hg]; exact Nat.ne_of_gt (blk_lt (g := gb50001) (o := .cells #[.int .i64 a0_0, .int .i64 a0_1, .int .i64 a0_2, .slice A0_3 l0_3.length c0_3] 27 (0, 0)) (by (with_reducible repeat (first | refine blk_drewN ?_ _ | refine blk_drew ?_ | refine blk_alloc ?_ _)); exact BK50001.out)) : gb50002 ≠ gb50001)); clear BK50001; clear HB; have BK50001 := n0_; have HB := n1_; have BK50002 := n2_; have GW50002 := n3_; have GE50002 := n4_; have NB50001_50002 := n5_; have NB50002_50001 := n6_; clear n0_ n1_ n2_ n3_ n4_ n5_ n6_; clear hb hbox hg) | ((with_reducible refine gate_dst (N := 4) rfl ?_); refine box_event ?hg (N := 4) ?hd (cs := #[.int .i64 0, .int .i64 0, .int .i64 0, .slice none 0 0]) (t := 27) ?hr ?_; (case hd => rfl); (case hg => rfl); (case hr => first | (go_simp; done) | (go_simp; rfl)); intro gb50003 hg w26 hbox hb; have n0_ := Aside0.mk (blk_below (g := gb50001) (o := .cells #[.int .i64 a0_0, .int .i64 a0_1, .int .i64 a0_2, .slice A0_3 l0_3.length c0_3] 27 (0, 0)) (by (with_reducible repeat (first | refine blk_drewN ?_ _ | refine blk_drew ?_ | refine blk_alloc ?_ _)); exact BK50001.out) hb); have n1_ := Aside0.mk (blk_below (g := gb50002) (o := .cells #[.int .i64 a1_0, .int .i64 a1_1, .int .i64 a1_2, .slice A1_3 l1_3.length c1_3, .int .i64 a1_4, .int .i64 a1_5, .int .i64 a1_6, .int .i64 a1_7, .bool a1_8] 55 (0, 0)) (by (with_reducible repeat (first | refine blk_drewN ?_ _ | refine blk_drew ?_ | refine blk_alloc ?_ _)); exact BK50002.out) hb); have n2_ := Aside0.mk (below_step (by repeat (first | (with_reducible first | exact HB.out | apply below_alloc | apply pw_below_drewN | apply below_drew1 | refine below_set ?_ GE50001.out | refine below_set ?_ GE50002.out) | exact HB.out)) hb); have n3_ := Aside0.mk (hbox); have n4_ := Aside0.mk ((by rw [hg]; exact (below_size (by repeat (first | (with_reducible first | exact HB.out | apply below_alloc | apply pw_below_drewN | apply below_drew1 | refine below_set ?_ GE50001.out | refine below_set ?_ GE50002.out) | exact HB.out))) : w.heap.size ≤ gb50003)); have n5_ := Aside0.mk ((by rw [hg]; exact (below_size (by repeat (first | (with_reducible first | exact HB.out | apply below_alloc | apply pw_below_drewN | apply below_drew1 | refine below_set ?_ GE50001.out | refine below_set ?_ GE50002.out) | exact HB.out))) : w.heap.size ≤ gb50003)); have n6_ := Aside0.mk ((by rw [hg]; exact Nat.ne_of_lt (blk_lt (g := gb50001) (o := .cells #[.int .i64 a0_0, .int .i64 a0_1, .int .i64 a0_2, .slice A0_3 l0_3.length c0_3] 27 (0, 0)) (by (with_reducible repeat (first | refine blk_drewN ?_ _ | refine blk_drew ?_ | refine blk_alloc ?_ _)); exact BK50001.out)) : gb50001 ≠ gb50003)); have n7_ := Aside0.mk ((by rw [hg]; exact Nat.ne_of_gt (blk_lt (g := gb50001) (o := .cells #[.int .i64 a0_0, .int .i64 a0_1, .int .i64 a0_2, .slice A0_3 l0_3.length c0_3] 27 (0, 0)) (by (with_reducible repeat (first | refine blk_drewN ?_ _ | refine blk_drew ?_ | refine blk_alloc ?_ _)); exact BK50001.out)) : gb50003 ≠ gb50001)); have n8_ := Aside0.mk ((by rw [hg]; exact Nat.ne_of_lt (blk_lt (g := gb50002) (o := .cells #[.int .i64 a1_0, .int .i64 a1_1, .int .i64 a1_2, .slice A1_3 l1_3.length c1_3, .int .i64 a1_4, .int .i64 a1_5, .int .i64 a1_6, .int .i64 a1_7, .bool a1_8] 55 (0, 0)) (by (with_reducible repeat (first | refine blk_drewN ?_ _ | refine blk_drew ?_ | refine blk_alloc ?_ _)); exact BK50002.out)) : gb50002 ≠ gb50003)); have n9_ := Aside0.mk ((by rw [hg]; exact Nat.ne_of_gt (blk_lt (g := gb50002) (o := .cells #[.int .i64 a1_0, .int .i64 a1_1, .int .i64 a1_2, .slice A1_3 l1_3.length c1_3, .int .i64 a1_4, .int .i64 a1_5, .int .i64 a1_6, .int .i64 a1_7, .bool a1_8] 55 (0, 0)) (by (with_reducible repeat (first | refine blk_drewN ?_ _ | refine blk_drew ?_ | refine blk_alloc ?_ _)); exact BK50002.out)) : gb50003 ≠ gb50002)); clear BK50001; clear BK50002; clear HB; have BK50001 := n0_; have BK50002 := n1_; have HB := n2_; have BK50003 := n3_; have GW50003 := n4_; have GE50003 := n5_; have NB50001_50003 := n6_; have NB50003_50001 := n7_; have NB50002_50003 := n8_; have NB50003_50002 := n9_; clear n0_ n1_ n2_ n3_ n4_ n5_ n6_ n7_ n8_ n9_; clear hb hbox hg; have hnb27 := NB50001_50002.out; have hnc27 := NB50002_50001.out; have hnb28 := NB50001_50003.out; have hnc28 := NB50003_50001.out; have hcz29_0 : w26.cell? ⟨gb50001, 0, none⟩ = some (.int .i64 a0_0) := (blk_cell BK50001.out 0).trans rfl; have hcz29_1 : w26.cell? ⟨gb50001, 1, none⟩ = some (.int .i64 a0_1) := (blk_cell BK50001.out 1).trans rfl; have hcz29_2 : w26.cell? ⟨gb50001, 2, none⟩ = some (.int .i64 a0_2) := (blk_cell BK50001.out 2).trans rfl; have hcz29_3 : w26.cell? ⟨gb50001, 3, none⟩ = some (.slice A0_3 l0_3.length c0_3) := (blk_cell BK50001.out 3).trans rfl; have hfz29_0 := blk_frozen BK50001.out 0; have hfz29_1 := blk_frozen BK50001.out 1; have hfz29_2 := blk_frozen BK50001.out 2; have hfz29_3 := blk_frozen BK50001.out 3) | ((with_reducible refine gate_callee (f := 83) rfl ?_); refine goesL_ (some 7) rfl rfl Try.func83 (by kernel_rfl) rfl #[.agg #[.int .i64 a0_0, .int .i64 a0_1, .int .i64 a0_2, .slice A0_3 l0_3.length c0_3]] rfl (by (try simp only [List.map_toArray, List.map_cons, List.map_nil]); first | done | rfl | (simp only [List.length_drop, List.length_take]; rfl)) ?_; (with_reducible refine (impl_isImage.calls a0_0 a0_1 a0_2 _ _ l0_3 true _ ?side1 ?side2 A3.out).mono ?_); (case side1 => repeat (first | exact (Kd.C_below HR0_3.out HB.out) | (with_reducible refine Kd.C_alloc ?_ _) | (with_reducible refine Kd.C_drewN ?_ _) | (with_reducible refine Kd.C_drew ?_))); (case side2 => exact HC0_3.out); rintro e w30 ⟨rfl, hb⟩; refine ⟨_, rfl, ?_⟩; have n0_ := Aside0.mk (blk_below (g := gb50001) (o := .cells #[.int .i64 a0_0, .int .i64 a0_1, .int .i64 a0_2, .slice A0_3 l0_3.length c0_3] 27 (0, 0)) (by (with_reducible repeat (first | refine blk_drewN ?_ _ | refine blk_drew ?_ | refine blk_alloc ?_ _)); exact BK50001.out) hb); have n1_ := Aside0.mk (blk_below (g := gb50002) (o := .cells #[.int .i64 a1_0, .int .i64 a1_1, .int .i64 a1_2, .slice A1_3 l1_3.length c1_3, .int .i64 a1_4, .int .i64 a1_5, .int .i64 a1_6, .int .i64 a1_7, .bool a1_8] 55 (0, 0)) (by (with_reducible repeat (first | refine blk_drewN ?_ _ | refine blk_drew ?_ | refine blk_alloc ?_ _)); exact BK50002.out) hb); have n2_ := Aside0.mk (blk_below (g := gb50003) (o := .cells #[.int .i64 0, .int .i64 0, .int .i64 0, .slice none 0 0] 27 (0, 0)) (by (with_reducible repeat (first | refine blk_drewN ?_ _ | refine blk_drew ?_ | refine blk_alloc ?_ _)); exact BK50003.out) hb); have n3_ := Aside0.mk (below_step (by repeat (first | (with_reducible first | exact HB.out | apply below_alloc | apply pw_below_drewN | apply below_drew1 | refine below_set ?_ GE50001.out | refine below_set ?_ GE50002.out | refine below_set ?_ GE50003.out) | exact HB.out)) hb); clear BK50001; clear BK50002; clear BK50003; clear HB; have BK50001 := n0_; have BK50002 := n1_; have BK50003 := n2_; have HB := n3_; clear n0_ n1_ n2_ n3_; (try clear hb); (try clear hb2); (try clear hk); (try clear hi); have hnb31 := NB50002_50003.out; have hnc31 := NB50003_50002.out; have hcz32_0 : w30.cell? ⟨gb50002, 0, none⟩ = some (.int .i64 a1_0) := (blk_cell BK50002.out 0).trans rfl; have hcz32_1 : w30.cell? ⟨gb50002, 1, none⟩ = some (.int .i64 a1_1) := (blk_cell BK50002.out 1).trans rfl; have hcz32_2 : w30.cell? ⟨gb50002, 2, none⟩ = some (.int .i64 a1_2) := (blk_cell BK50002.out 2).trans rfl; have hcz32_3 : w30.cell? ⟨gb50002, 3, none⟩ = some (.slice A1_3 l1_3.length c1_3) := (blk_cell BK50002.out 3).trans rfl; have hcz32_4 : w30.cell? ⟨gb50002, 4, none⟩ = some (.int .i64 a1_4) := (blk_cell BK50002.out 4).trans rfl; have hcz32_5 : w30.cell? ⟨gb50002, 5, none⟩ = some (.int .i64 a1_5) := (blk_cell BK50002.out 5).trans rfl; have hcz32_6 : w30.cell? ⟨gb50002, 6, none⟩ = some (.int .i64 a1_6) := (blk_cell BK50002.out 6).trans rfl; have hcz32_7 : w30.cell? ⟨gb50002, 7, none⟩ = some (.int .i64 a1_7) := (blk_cell BK50002.out 7).trans rfl; have hcz32_8 : w30.cell? ⟨gb50002, 8, none⟩ = some (.bool a1_8) := (blk_cell BK50002.out 8).trans rfl; have hfz32_0 := blk_frozen BK50002.out 0; have hfz32_1 := blk_frozen BK50002.out 1; have hfz32_2 := blk_frozen BK50002.out 2; have hfz32_3 := blk_frozen BK50002.out 3; have hfz32_4 := blk_frozen BK50002.out 4; have hfz32_5 := blk_frozen BK50002.out 5; have hfz32_6 := blk_frozen BK50002.out 6; have hfz32_7 := blk_frozen BK50002.out 7; have hfz32_8 := blk_frozen BK50002.out 8; have hcz33_0 : w30.cell? ⟨gb50001, 0, none⟩ = some (.int .i64 a0_0) := (blk_cell BK50001.out 0).trans rfl; have hcz33_1 : w30.cell? ⟨gb50001, 1, none⟩ = some (.int .i64 a0_1) := (blk_cell BK50001.out 1).trans rfl; have hcz33_2 : w30.cell? ⟨gb50001, 2, none⟩ = some (.int .i64 a0_2) := (blk_cell BK50001.out 2).trans rfl; have hcz33_3 : w30.cell? ⟨gb50001, 3, none⟩ = some (.slice A0_3 l0_3.length c0_3) := (blk_cell BK50001.out 3).trans rfl; have hfz33_0 := blk_frozen BK50001.out 0; have hfz33_1 := blk_frozen BK50001.out 1; have hfz33_2 := blk_frozen BK50001.out 2; have hfz33_3 := blk_frozen BK50001.out 3) | (go_at_call 103; (with_reducible refine (impl_isLayer.calls a1_0 a1_1 a1_2 _ _ l1_3 a1_4 a1_5 a1_6 a1_7 a1_8 a0_2 false _ ?side1 ?side2 A5.out).mono ?_); (case side1 => repeat (first | exact (Kd.C_below HR1_3.out HB.out) | (with_reducible refine Kd.C_alloc ?_ _) | (with_reducible refine Kd.C_drewN ?_ _) | (with_reducible refine Kd.C_drew ?_))); (case side2 => exact HC1_3.out); rintro e w34 ⟨rfl, hb⟩; have n0_ := Aside0.mk (blk_below (g := gb50001) (o := .cells #[.int .i64 a0_0, .int .i64 a0_1, .int .i64 a0_2, .slice A0_3 l0_3.length c0_3] 27 (0, 0)) (by (with_reducible repeat (first | refine blk_drewN ?_ _ | refine blk_drew ?_ | refine blk_alloc ?_ _)); exact BK50001.out) hb); have n1_ := Aside0.mk (blk_below (g := gb50002) (o := .cells #[.int .i64 a1_0, .int .i64 a1_1, .int .i64 a1_2, .slice A1_3 l1_3.length c1_3, .int .i64 a1_4, .int .i64 a1_5, .int .i64 a1_6, .int .i64 a1_7, .bool a1_8] 55 (0, 0)) (by (with_reducible repeat (first | refine blk_drewN ?_ _ | refine blk_drew ?_ | refine blk_alloc ?_ _)); exact BK50002.out) hb); have n2_ := Aside0.mk (blk_below (g := gb50003) (o := .cells #[.int .i64 0, .int .i64 0, .int .i64 0, .slice none 0 0] 27 (0, 0)) (by (with_reducible repeat (first | refine blk_drewN ?_ _ | refine blk_drew ?_ | refine blk_alloc ?_ _)); exact BK50003.out) hb); have n3_ := Aside0.mk (below_step (by repeat (first | (with_reducible first | exact HB.out | apply below_alloc | apply pw_below_drewN | apply below_drew1 | refine below_set ?_ GE50001.out | refine below_set ?_ GE50002.out | refine below_set ?_ GE50003.out) | exact HB.out)) hb); clear BK50001; clear BK50002; clear BK50003; clear HB; have BK50001 := n0_; have BK50002 := n1_; have BK50003 := n2_; have HB := n3_; clear n0_ n1_ n2_ n3_; (try clear hb); (try clear hb2); (try clear hk); (try clear hi); have hcz35_0 : w34.cell? ⟨gb50003, 0, none⟩ = some (.int .i64 0) := (blk_cell BK50003.out 0).trans rfl; have hcz35_1 : w34.cell? ⟨gb50003, 1, none⟩ = some (.int .i64 0) := (blk_cell BK50003.out 1).trans rfl; have hcz35_2 : w34.cell? ⟨gb50003, 2, none⟩ = some (.int .i64 0) := (blk_cell BK50003.out 2).trans rfl; have hcz35_3 : w34.cell? ⟨gb50003, 3, none⟩ = some (.slice none 0 0) := (blk_cell BK50003.out 3).trans rfl; have hfz35_0 := blk_frozen BK50003.out 0; have hfz35_1 := blk_frozen BK50003.out 1; have hfz35_2 := blk_frozen BK50003.out 2; have hfz35_3 := blk_frozen BK50003.out 3))
      refine bodyPost_ret (results_ct rfl _ _ gb50003 27 #[.int .i64 0, .int .i64 0, .int .i64 0, .slice none 0 0] (0, 0) _ rfl (by (with_reducible repeat (first | refine blk_drewN ?_ _ | refine blk_drew ?_ | refine blk_alloc ?_ _)); refine blk_put (cs := #[.int .i64 0, .int .i64 0, .int .i64 0, .slice none 0 0]) ?_ 3 _ rfl; (with_reducible repeat (first | refine blk_drewN ?_ _ | refine blk_drew ?_ | refine blk_alloc ?_ _)); refine blk_put (cs := #[.int .i64 0, .int .i64 0, .int .i64 0, .slice none 0 0]) ?_ 2 _ rfl; (with_reducible repeat (first | refine blk_drewN ?_ _ | refine blk_drew ?_ | refine blk_alloc ?_ _)); refine blk_put (cs := #[.int .i64 0, .int .i64 0, .int .i64 0, .slice none 0 0]) ?_ 1 _ rfl; (with_reducible repeat (first | refine blk_drewN ?_ _ | refine blk_drew ?_ | refine blk_alloc ?_ _)); refine blk_put (cs := #[.int .i64 0, .int .i64 0, .int .i64 0, .slice none 0 0]) ?_ 0 _ rfl; (with_reducible repeat (first | refine blk_drewN ?_ _ | refine blk_drew ?_ | refine blk_alloc ?_ _)); exact BK50003.out) Try.underlying27 rfl (by kernel_rfl)) rfl ?_
      exact ⟨_, by first | rfl | (simp [errW_none, errW_some] <;> rfl) | (simp [*, errW_none, errW_some] <;> rfl), by first | exact Kd.R_nil _ _ _ _ _ | exact Kd.N_nil _ _ _ _ _ | exact Kd.V_nil _ _ _ _ _ | exact Kd.Q_nil _ _ _ _ _ | exact Kd.S_nil _ _ _ _ _, by repeat (first | (with_reducible first | exact HB.out | apply below_alloc | apply pw_below_drewN | apply below_drew1 | refine below_set ?_ GE50001.out | refine below_set ?_ GE50002.out | refine below_set ?_ GE50003.out) | exact HB.out)⟩
  · replace c4 := Bool.eq_false_iff.mpr c4
    subst c4
    have H1 : (some (0, 0, 0, ([] : List Int), false)) = some (r1, r2, r3, r4, r5) := by rw [if_neg (show ¬ (false = true) by decide)] at H; exact H
    clear H
    have H := H1
    clear H1
    simp only [Option.some.injEq, Prod.mk.injEq] at H
    obtain ⟨rfl, rfl, rfl, rfl, rfl⟩ := H
    go_enter Try.func49, Try.ntmps49
    go_wp2_with (first | ((with_reducible refine gate_dst (N := 2) rfl ?_); refine box_event ?hg (N := 2) ?hd (cs := #[.int .i64 a0_0, .int .i64 a0_1, .int .i64 a0_2, .slice A0_3 l0_3.length c0_3]) (t := 27) ?hr ?_; (case hd => rfl); (case hg => rfl); (case hr => first | (go_simp; done) | (go_simp; rfl)); intro gb50001 hg w36 hbox hb; have n0_ := Aside0.mk (below_step (by repeat (first | (with_reducible first | exact HB.out | apply below_alloc | apply pw_below_drewN | apply below_drew1) | exact HB.out)) hb); have n1_ := Aside0.mk (hbox); have n2_ := Aside0.mk ((by rw [hg]; exact (below_size (by repeat (first | (with_reducible first | exact HB.out | apply below_alloc | apply pw_below_drewN | apply below_drew1) | exact HB.out))) : w.heap.size ≤ gb50001)); have n3_ := Aside0.mk ((by rw [hg]; exact (below_size (by repeat (first | (with_reducible first | exact HB.out | apply below_alloc | apply pw_below_drewN | apply below_drew1) | exact HB.out))) : w.heap.size ≤ gb50001)); clear HB; have HB := n0_; have BK50001 := n1_; have GW50001 := n2_; have GE50001 := n3_; clear n0_ n1_ n2_ n3_; clear hb hbox hg) | ((with_reducible refine gate_dst (N := 3) rfl ?_); refine box_event ?hg (N := 3) ?hd (cs := #[.int .i64 a1_0, .int .i64 a1_1, .int .i64 a1_2, .slice A1_3 l1_3.length c1_3, .int .i64 a1_4, .int .i64 a1_5, .int .i64 a1_6, .int .i64 a1_7, .bool a1_8]) (t := 55) ?hr ?_; (case hd => rfl); (case hg => rfl); (case hr => first | (go_simp; done) | (go_simp; rfl)); intro gb50002 hg w37 hbox hb; have n0_ := Aside0.mk (blk_below (g := gb50001) (o := .cells #[.int .i64 a0_0, .int .i64 a0_1, .int .i64 a0_2, .slice A0_3 l0_3.length c0_3] 27 (0, 0)) (by (with_reducible repeat (first | refine blk_drewN ?_ _ | refine blk_drew ?_ | refine blk_alloc ?_ _)); exact BK50001.out) hb); have n1_ := Aside0.mk (below_step (by repeat (first | (with_reducible first | exact HB.out | apply below_alloc | apply pw_below_drewN | apply below_drew1 | refine below_set ?_ GE50001.out) | exact HB.out)) hb); have n2_ := Aside0.mk (hbox); have n3_ := Aside0.mk ((by rw [hg]; exact (below_size (by repeat (first | (with_reducible first | exact HB.out | apply below_alloc | apply pw_below_drewN | apply below_drew1 | refine below_set ?_ GE50001.out) | exact HB.out))) : w.heap.size ≤ gb50002)); have n4_ := Aside0.mk ((by rw [hg]; exact (below_size (by repeat (first | (with_reducible first | exact HB.out | apply below_alloc | apply pw_below_drewN | apply below_drew1 | refine below_set ?_ GE50001.out) | exact HB.out))) : w.heap.size ≤ gb50002)); have n5_ := Aside0.mk ((by rw [hg]; exact Nat.ne_of_lt (blk_lt (g := gb50001) (o := .cells #[.int .i64 a0_0, .int .i64 a0_1, .int .i64 a0_2, .slice A0_3 l0_3.length c0_3] 27 (0, 0)) (by (with_reducible repeat (first | refine blk_drewN ?_ _ | refine blk_drew ?_ | refine blk_alloc ?_ _)); exact BK50001.out)) : gb50001 ≠ gb50002)); have n6_ := Aside0.mk ((by rw [hg]; exact Nat.ne_of_gt (blk_lt (g := gb50001) (o := .cells #[.int .i64 a0_0, .int .i64 a0_1, .int .i64 a0_2, .slice A0_3 l0_3.length c0_3] 27 (0, 0)) (by (with_reducible repeat (first | refine blk_drewN ?_ _ | refine blk_drew ?_ | refine blk_alloc ?_ _)); exact BK50001.out)) : gb50002 ≠ gb50001)); clear BK50001; clear HB; have BK50001 := n0_; have HB := n1_; have BK50002 := n2_; have GW50002 := n3_; have GE50002 := n4_; have NB50001_50002 := n5_; have NB50002_50001 := n6_; clear n0_ n1_ n2_ n3_ n4_ n5_ n6_; clear hb hbox hg) | ((with_reducible refine gate_dst (N := 4) rfl ?_); refine box_event ?hg (N := 4) ?hd (cs := #[.int .i64 0, .int .i64 0, .int .i64 0, .slice none 0 0]) (t := 27) ?hr ?_; (case hd => rfl); (case hg => rfl); (case hr => first | (go_simp; done) | (go_simp; rfl)); intro gb50003 hg w38 hbox hb; have n0_ := Aside0.mk (blk_below (g := gb50001) (o := .cells #[.int .i64 a0_0, .int .i64 a0_1, .int .i64 a0_2, .slice A0_3 l0_3.length c0_3] 27 (0, 0)) (by (with_reducible repeat (first | refine blk_drewN ?_ _ | refine blk_drew ?_ | refine blk_alloc ?_ _)); exact BK50001.out) hb); have n1_ := Aside0.mk (blk_below (g := gb50002) (o := .cells #[.int .i64 a1_0, .int .i64 a1_1, .int .i64 a1_2, .slice A1_3 l1_3.length c1_3, .int .i64 a1_4, .int .i64 a1_5, .int .i64 a1_6, .int .i64 a1_7, .bool a1_8] 55 (0, 0)) (by (with_reducible repeat (first | refine blk_drewN ?_ _ | refine blk_drew ?_ | refine blk_alloc ?_ _)); exact BK50002.out) hb); have n2_ := Aside0.mk (below_step (by repeat (first | (with_reducible first | exact HB.out | apply below_alloc | apply pw_below_drewN | apply below_drew1 | refine below_set ?_ GE50001.out | refine below_set ?_ GE50002.out) | exact HB.out)) hb); have n3_ := Aside0.mk (hbox); have n4_ := Aside0.mk ((by rw [hg]; exact (below_size (by repeat (first | (with_reducible first | exact HB.out | apply below_alloc | apply pw_below_drewN | apply below_drew1 | refine below_set ?_ GE50001.out | refine below_set ?_ GE50002.out) | exact HB.out))) : w.heap.size ≤ gb50003)); have n5_ := Aside0.mk ((by rw [hg]; exact (below_size (by repeat (first | (with_reducible first | exact HB.out | apply below_alloc | apply pw_below_drewN | apply below_drew1 | refine below_set ?_ GE50001.out | refine below_set ?_ GE50002.out) | exact HB.out))) : w.heap.size ≤ gb50003)); have n6_ := Aside0.mk ((by rw [hg]; exact Nat.ne_of_lt (blk_lt (g := gb50001) (o := .cells #[.int .i64 a0_0, .int .i64 a0_1, .int .i64 a0_2, .slice A0_3 l0_3.length c0_3] 27 (0, 0)) (by (with_reducible repeat (first | refine blk_drewN ?_ _ | refine blk_drew ?_ | refine blk_alloc ?_ _)); exact BK50001.out)) : gb50001 ≠ gb50003)); have n7_ := Aside0.mk ((by rw [hg]; exact Nat.ne_of_gt (blk_lt (g := gb50001) (o := .cells #[.int .i64 a0_0, .int .i64 a0_1, .int .i64 a0_2, .slice A0_3 l0_3.length c0_3] 27 (0, 0)) (by (with_reducible repeat (first | refine blk_drewN ?_ _ | refine blk_drew ?_ | refine blk_alloc ?_ _)); exact BK50001.out)) : gb50003 ≠ gb50001)); have n8_ := Aside0.mk ((by rw [hg]; exact Nat.ne_of_lt (blk_lt (g := gb50002) (o := .cells #[.int .i64 a1_0, .int .i64 a1_1, .int .i64 a1_2, .slice A1_3 l1_3.length c1_3, .int .i64 a1_4, .int .i64 a1_5, .int .i64 a1_6, .int .i64 a1_7, .bool a1_8] 55 (0, 0)) (by (with_reducible repeat (first | refine blk_drewN ?_ _ | refine blk_drew ?_ | refine blk_alloc ?_ _)); exact BK50002.out)) : gb50002 ≠ gb50003)); have n9_ := Aside0.mk ((by rw [hg]; exact Nat.ne_of_gt (blk_lt (g := gb50002) (o := .cells #[.int .i64 a1_0, .int .i64 a1_1, .int .i64 a1_2, .slice A1_3 l1_3.length c1_3, .int .i64 a1_4, .int .i64 a1_5, .int .i64 a1_6, .int .i64 a1_7, .bool a1_8] 55 (0, 0)) (by (with_reducible repeat (first | refine blk_drewN ?_ _ | refine blk_drew ?_ | refine blk_alloc ?_ _)); exact BK50002.out)) : gb50003 ≠ gb50002)); clear BK50001; clear BK50002; clear HB; have BK50001 := n0_; have BK50002 := n1_; have HB := n2_; have BK50003 := n3_; have GW50003 := n4_; have GE50003 := n5_; have NB50001_50003 := n6_; have NB50003_50001 := n7_; have NB50002_50003 := n8_; have NB50003_50002 := n9_; clear n0_ n1_ n2_ n3_ n4_ n5_ n6_ n7_ n8_ n9_; clear hb hbox hg; have hnb39 := NB50001_50002.out; have hnc39 := NB50002_50001.out; have hnb40 := NB50001_50003.out; have hnc40 := NB50003_50001.out; have hcz41_0 : w38.cell? ⟨gb50001, 0, none⟩ = some (.int .i64 a0_0) := (blk_cell BK50001.out 0).trans rfl; have hcz41_1 : w38.cell? ⟨gb50001, 1, none⟩ = some (.int .i64 a0_1) := (blk_cell BK50001.out 1).trans rfl; have hcz41_2 : w38.cell? ⟨gb50001, 2, none⟩ = some (.int .i64 a0_2) := (blk_cell BK50001.out 2).trans rfl; have hcz41_3 : w38.cell? ⟨gb50001, 3, none⟩ = some (.slice A0_3 l0_3.length c0_3) := (blk_cell BK50001.out 3).trans rfl; have hfz41_0 := blk_frozen BK50001.out 0; have hfz41_1 := blk_frozen BK50001.out 1; have hfz41_2 := blk_frozen BK50001.out 2; have hfz41_3 := blk_frozen BK50001.out 3) | ((with_reducible refine gate_callee (f := 83) rfl ?_); refine goesL_ (some 7) rfl rfl Try.func83 (by kernel_rfl) rfl #[.agg #[.int .i64 a0_0, .int .i64 a0_1, .int .i64 a0_2, .slice A0_3 l0_3.length c0_3]] rfl (by (try simp only [List.map_toArray, List.map_cons, List.map_nil]); first | done | rfl | (simp only [List.length_drop, List.length_take]; rfl)) ?_; (with_reducible refine (impl_isImage.calls a0_0 a0_1 a0_2 _ _ l0_3 false _ ?side1 ?side2 A3.out).mono ?_); (case side1 => repeat (first | exact (Kd.C_below HR0_3.out HB.out) | (with_reducible refine Kd.C_alloc ?_ _) | (with_reducible refine Kd.C_drewN ?_ _) | (with_reducible refine Kd.C_drew ?_))); (case side2 => exact HC0_3.out); rintro e w42 ⟨rfl, hb⟩; refine ⟨_, rfl, ?_⟩; have n0_ := Aside0.mk (blk_below (g := gb50001) (o := .cells #[.int .i64 a0_0, .int .i64 a0_1, .int .i64 a0_2, .slice A0_3 l0_3.length c0_3] 27 (0, 0)) (by (with_reducible repeat (first | refine blk_drewN ?_ _ | refine blk_drew ?_ | refine blk_alloc ?_ _)); exact BK50001.out) hb); have n1_ := Aside0.mk (blk_below (g := gb50002) (o := .cells #[.int .i64 a1_0, .int .i64 a1_1, .int .i64 a1_2, .slice A1_3 l1_3.length c1_3, .int .i64 a1_4, .int .i64 a1_5, .int .i64 a1_6, .int .i64 a1_7, .bool a1_8] 55 (0, 0)) (by (with_reducible repeat (first | refine blk_drewN ?_ _ | refine blk_drew ?_ | refine blk_alloc ?_ _)); exact BK50002.out) hb); have n2_ := Aside0.mk (blk_below (g := gb50003) (o := .cells #[.int .i64 0, .int .i64 0, .int .i64 0, .slice none 0 0] 27 (0, 0)) (by (with_reducible repeat (first | refine blk_drewN ?_ _ | refine blk_drew ?_ | refine blk_alloc ?_ _)); exact BK50003.out) hb); have n3_ := Aside0.mk (below_step (by repeat (first | (with_reducible first | exact HB.out | apply below_alloc | apply pw_below_drewN | apply below_drew1 | refine below_set ?_ GE50001.out | refine below_set ?_ GE50002.out | refine below_set ?_ GE50003.out) | exact HB.out)) hb); clear BK50001; clear BK50002; clear BK50003; clear HB; have BK50001 := n0_; have BK50002 := n1_; have BK50003 := n2_; have HB := n3_; clear n0_ n1_ n2_ n3_; (try clear hb); (try clear hb2); (try clear hk); (try clear hi); have hnb43 := NB50003_50002.out; have hnc43 := NB50002_50003.out; have hcz44_0 : w42.cell? ⟨gb50003, 0, none⟩ = some (.int .i64 0) := (blk_cell BK50003.out 0).trans rfl; have hcz44_1 : w42.cell? ⟨gb50003, 1, none⟩ = some (.int .i64 0) := (blk_cell BK50003.out 1).trans rfl; have hcz44_2 : w42.cell? ⟨gb50003, 2, none⟩ = some (.int .i64 0) := (blk_cell BK50003.out 2).trans rfl; have hcz44_3 : w42.cell? ⟨gb50003, 3, none⟩ = some (.slice none 0 0) := (blk_cell BK50003.out 3).trans rfl; have hfz44_0 := blk_frozen BK50003.out 0; have hfz44_1 := blk_frozen BK50003.out 1; have hfz44_2 := blk_frozen BK50003.out 2; have hfz44_3 := blk_frozen BK50003.out 3))
    refine bodyPost_ret (results_ct rfl _ _ gb50003 27 #[.int .i64 0, .int .i64 0, .int .i64 0, .slice none 0 0] (0, 0) _ rfl (by (with_reducible repeat (first | refine blk_drewN ?_ _ | refine blk_drew ?_ | refine blk_alloc ?_ _)); refine blk_put (cs := #[.int .i64 0, .int .i64 0, .int .i64 0, .slice none 0 0]) ?_ 3 _ rfl; (with_reducible repeat (first | refine blk_drewN ?_ _ | refine blk_drew ?_ | refine blk_alloc ?_ _)); refine blk_put (cs := #[.int .i64 0, .int .i64 0, .int .i64 0, .slice none 0 0]) ?_ 2 _ rfl; (with_reducible repeat (first | refine blk_drewN ?_ _ | refine blk_drew ?_ | refine blk_alloc ?_ _)); refine blk_put (cs := #[.int .i64 0, .int .i64 0, .int .i64 0, .slice none 0 0]) ?_ 1 _ rfl; (with_reducible repeat (first | refine blk_drewN ?_ _ | refine blk_drew ?_ | refine blk_alloc ?_ _)); refine blk_put (cs := #[.int .i64 0, .int .i64 0, .int .i64 0, .slice none 0 0]) ?_ 0 _ rfl; (with_reducible repeat (first | refine blk_drewN ?_ _ | refine blk_drew ?_ | refine blk_alloc ?_ _)); exact BK50003.out) Try.underlying27 rfl (by kernel_rfl)) rfl ?_
    exact ⟨_, by first | rfl | (simp [errW_none, errW_some] <;> rfl) | (simp [*, errW_none, errW_some] <;> rfl), by first | exact Kd.R_nil _ _ _ _ _ | exact Kd.N_nil _ _ _ _ _ | exact Kd.V_nil _ _ _ _ _ | exact Kd.Q_nil _ _ _ _ _ | exact Kd.S_nil _ _ _ _ _, by repeat (first | (with_reducible first | exact HB.out | apply below_alloc | apply pw_below_drewN | apply below_drew1 | refine below_set ?_ GE50001.out | refine below_set ?_ GE50002.out | refine below_set ?_ GE50003.out) | exact HB.out)⟩


def laws_szLayer.f (a0_0 : Int) (a0_1 : Int) (a0_2 : Int) (l0_3 : List Int) (a0_4 : Int) (a0_5 : Int) (a0_6 : Int) (a0_7 : Int) (a0_8 : Bool) (a1 : Int) : Option (Int) := (laws_szImage.f a0_0 a0_1 a0_2 l0_3 a1).bind fun t40002 => (if t40002 < 0 then (some (-1)) else (some t40002))
set_option maxHeartbeats 8000000 in
set_option maxRecDepth 100000 in
theorem laws_szLayer.calls (a0_0 : Int) (a0_1 : Int) (a0_2 : Int) (A0_3 : Option Addr) (c0_3 : Nat) (l0_3 : List Int) (a0_4 : Int) (a0_5 : Int) (a0_6 : Int) (a0_7 : Int) (a0_8 : Bool) (a1 : Int) (r : Int) (w : World) (hr0_3 : Kd.C (Kd.int .i64) w A0_3 l0_3.length l0_3) (hc0_3 : l0_3.length ≤ c0_3) (h : laws_szLayer.f a0_0 a0_1 a0_2 l0_3 a0_4 a0_5 a0_6 a0_7 a0_8 a1 = some r) :
    Calls Try.prog 39 #[.agg #[.int .i64 a0_0, .int .i64 a0_1, .int .i64 a0_2, .slice A0_3 l0_3.length c0_3, .int .i64 a0_4, .int .i64 a0_5, .int .i64 a0_6, .int .i64 a0_7, .bool a0_8], .int .i64 a1] w fun e w' => e = .returned (.int .i64 r) ∧ Below w.heap.size w w' := by
  have hu51 := Try.underlying51
  have hu24 := Try.underlying24
  have HR0_3 := Aside0.mk hr0_3
  have HC0_3 := Aside0.mk hc0_3
  clear hr0_3 hc0_3
  have HB := Aside0.mk (Below.refl w.heap.size w)
  have H : ((laws_szImage.f a0_0 a0_1 a0_2 l0_3 a1).bind fun t40002 => (if t40002 < 0 then (some (-1)) else (some t40002))) = some r := h
  clear h
  replace H := Option.bind_eq_some_iff.mp H
  obtain ⟨t40002, A30, H⟩ := H
  replace H : (if t40002 < 0 then (some (-1)) else (some t40002)) = some r := H
  have A3 := Aside0.mk A30
  clear A30
  by_cases c4 : t40002 < 0
  · rw [if_pos c4] at H
    have c4b0 : decide (t40002 < 0) = true := decide_eq_true c4
    clear c4
    obtain rfl := Option.some.inj H
    go_enter Try.func39, Try.ntmps39
    go_wp2_with (first | ((with_reducible refine gate_dst (N := 2) rfl ?_); refine box_event ?hg (N := 2) ?hd (cs := #[.int .i64 a0_0, .int .i64 a0_1, .int .i64 a0_2, .slice A0_3 l0_3.length c0_3, .int .i64 a0_4, .int .i64 a0_5, .int .i64 a0_6, .int .i64 a0_7, .bool a0_8]) (t := 51) ?hr ?_; (case hd => rfl); (case hg => rfl); (case hr => first | (go_simp; done) | (go_simp; rfl)); intro gb40001 hg w5 hbox hb; have n0_ := Aside0.mk (below_step (by repeat (first | (with_reducible first | exact HB.out | apply below_alloc | apply pw_below_drewN | apply below_drew1) | exact HB.out)) hb); have n1_ := Aside0.mk (hbox); have n2_ := Aside0.mk ((by rw [hg]; exact (below_size (by repeat (first | (with_reducible first | exact HB.out | apply below_alloc | apply pw_below_drewN | apply below_drew1) | exact HB.out))) : w.heap.size ≤ gb40001)); have n3_ := Aside0.mk ((by rw [hg]; exact (below_size (by repeat (first | (with_reducible first | exact HB.out | apply below_alloc | apply pw_below_drewN | apply below_drew1) | exact HB.out))) : w.heap.size ≤ gb40001)); clear HB; have HB := n0_; have BK40001 := n1_; have GW40001 := n2_; have GE40001 := n3_; clear n0_ n1_ n2_ n3_; clear hb hbox hg; have hcz6_0 : w5.cell? ⟨gb40001, 0, none⟩ = some (.int .i64 a0_0) := (blk_cell BK40001.out 0).trans rfl; have hcz6_1 : w5.cell? ⟨gb40001, 1, none⟩ = some (.int .i64 a0_1) := (blk_cell BK40001.out 1).trans rfl; have hcz6_2 : w5.cell? ⟨gb40001, 2, none⟩ = some (.int .i64 a0_2) := (blk_cell BK40001.out 2).trans rfl; have hcz6_3 : w5.cell? ⟨gb40001, 3, none⟩ = some (.slice A0_3 l0_3.length c0_3) := (blk_cell BK40001.out 3).trans rfl; have hcz6_4 : w5.cell? ⟨gb40001, 4, none⟩ = some (.int .i64 a0_4) := (blk_cell BK40001.out 4).trans rfl; have hcz6_5 : w5.cell? ⟨gb40001, 5, none⟩ = some (.int .i64 a0_5) := (blk_cell BK40001.out 5).trans rfl; have hcz6_6 : w5.cell? ⟨gb40001, 6, none⟩ = some (.int .i64 a0_6) := (blk_cell BK40001.out 6).trans rfl; have hcz6_7 : w5.cell? ⟨gb40001, 7, none⟩ = some (.int .i64 a0_7) := (blk_cell BK40001.out 7).trans rfl; have hcz6_8 : w5.cell? ⟨gb40001, 8, none⟩ = some (.bool a0_8) := (blk_cell BK40001.out 8).trans rfl; have hfz6_0 := blk_frozen BK40001.out 0; have hfz6_1 := blk_frozen BK40001.out 1; have hfz6_2 := blk_frozen BK40001.out 2; have hfz6_3 := blk_frozen BK40001.out 3; have hfz6_4 := blk_frozen BK40001.out 4; have hfz6_5 := blk_frozen BK40001.out 5; have hfz6_6 := blk_frozen BK40001.out 6; have hfz6_7 := blk_frozen BK40001.out 7; have hfz6_8 := blk_frozen BK40001.out 8) | ((with_reducible refine gate_callee (f := 20) rfl ?_); refine goesL_ (some 8) rfl rfl Try.func20 (by kernel_rfl) rfl #[.agg #[.int .i64 a0_0, .int .i64 a0_1, .int .i64 a0_2, .slice A0_3 l0_3.length c0_3], .int .i64 a1] rfl (by (try simp only [List.map_toArray, List.map_cons, List.map_nil]); first | done | rfl | (simp only [List.length_drop, List.length_take]; rfl)) ?_; (with_reducible refine (laws_szImage.calls a0_0 a0_1 a0_2 _ _ l0_3 a1 t40002 _ ?side1 ?side2 A3.out).mono ?_); (case side1 => repeat (first | exact (Kd.C_below HR0_3.out HB.out) | (with_reducible refine Kd.C_alloc ?_ _) | (with_reducible refine Kd.C_drewN ?_ _) | (with_reducible refine Kd.C_drew ?_))); (case side2 => exact HC0_3.out); rintro e w7 ⟨rfl, hb⟩; refine ⟨_, rfl, ?_⟩; have n0_ := Aside0.mk (blk_below (g := gb40001) (o := .cells #[.int .i64 a0_0, .int .i64 a0_1, .int .i64 a0_2, .slice A0_3 l0_3.length c0_3, .int .i64 a0_4, .int .i64 a0_5, .int .i64 a0_6, .int .i64 a0_7, .bool a0_8] 51 (0, 0)) (by (with_reducible repeat (first | refine blk_drewN ?_ _ | refine blk_drew ?_ | refine blk_alloc ?_ _)); exact BK40001.out) hb); have n1_ := Aside0.mk (below_step (by repeat (first | (with_reducible first | exact HB.out | apply below_alloc | apply pw_below_drewN | apply below_drew1 | refine below_set ?_ GE40001.out) | exact HB.out)) hb); clear BK40001; clear HB; have BK40001 := n0_; have HB := n1_; clear n0_ n1_; (try clear hb); (try clear hb2); (try clear hk); (try clear hi)))
    go_ret
    exact ⟨by first | rfl | (simp [errW_none, errW_some] <;> rfl) | (simp [*, errW_none, errW_some] <;> rfl), by repeat (first | (with_reducible first | exact HB.out | apply below_alloc | apply pw_below_drewN | apply below_drew1 | refine below_set ?_ GE40001.out) | exact HB.out)⟩
  · rw [if_neg c4] at H
    have c4b0 : decide (t40002 < 0) = false := decide_eq_false c4
    clear c4
    obtain rfl := Option.some.inj H
    go_enter Try.func39, Try.ntmps39
    go_wp2_with (first | ((with_reducible refine gate_dst (N := 2) rfl ?_); refine box_event ?hg (N := 2) ?hd (cs := #[.int .i64 a0_0, .int .i64 a0_1, .int .i64 a0_2, .slice A0_3 l0_3.length c0_3, .int .i64 a0_4, .int .i64 a0_5, .int .i64 a0_6, .int .i64 a0_7, .bool a0_8]) (t := 51) ?hr ?_; (case hd => rfl); (case hg => rfl); (case hr => first | (go_simp; done) | (go_simp; rfl)); intro gb40001 hg w8 hbox hb; have n0_ := Aside0.mk (below_step (by repeat (first | (with_reducible first | exact HB.out | apply below_alloc | apply pw_below_drewN | apply below_drew1) | exact HB.out)) hb); have n1_ := Aside0.mk (hbox); have n2_ := Aside0.mk ((by rw [hg]; exact (below_size (by repeat (first | (with_reducible first | exact HB.out | apply below_alloc | apply pw_below_drewN | apply below_drew1) | exact HB.out))) : w.heap.size ≤ gb40001)); have n3_ := Aside0.mk ((by rw [hg]; exact (below_size (by repeat (first | (with_reducible first | exact HB.out | apply below_alloc | apply pw_below_drewN | apply below_drew1) | exact HB.out))) : w.heap.size ≤ gb40001)); clear HB; have HB := n0_; have BK40001 := n1_; have GW40001 := n2_; have GE40001 := n3_; clear n0_ n1_ n2_ n3_; clear hb hbox hg; have hcz9_0 : w8.cell? ⟨gb40001, 0, none⟩ = some (.int .i64 a0_0) := (blk_cell BK40001.out 0).trans rfl; have hcz9_1 : w8.cell? ⟨gb40001, 1, none⟩ = some (.int .i64 a0_1) := (blk_cell BK40001.out 1).trans rfl; have hcz9_2 : w8.cell? ⟨gb40001, 2, none⟩ = some (.int .i64 a0_2) := (blk_cell BK40001.out 2).trans rfl; have hcz9_3 : w8.cell? ⟨gb40001, 3, none⟩ = some (.slice A0_3 l0_3.length c0_3) := (blk_cell BK40001.out 3).trans rfl; have hcz9_4 : w8.cell? ⟨gb40001, 4, none⟩ = some (.int .i64 a0_4) := (blk_cell BK40001.out 4).trans rfl; have hcz9_5 : w8.cell? ⟨gb40001, 5, none⟩ = some (.int .i64 a0_5) := (blk_cell BK40001.out 5).trans rfl; have hcz9_6 : w8.cell? ⟨gb40001, 6, none⟩ = some (.int .i64 a0_6) := (blk_cell BK40001.out 6).trans rfl; have hcz9_7 : w8.cell? ⟨gb40001, 7, none⟩ = some (.int .i64 a0_7) := (blk_cell BK40001.out 7).trans rfl; have hcz9_8 : w8.cell? ⟨gb40001, 8, none⟩ = some (.bool a0_8) := (blk_cell BK40001.out 8).trans rfl; have hfz9_0 := blk_frozen BK40001.out 0; have hfz9_1 := blk_frozen BK40001.out 1; have hfz9_2 := blk_frozen BK40001.out 2; have hfz9_3 := blk_frozen BK40001.out 3; have hfz9_4 := blk_frozen BK40001.out 4; have hfz9_5 := blk_frozen BK40001.out 5; have hfz9_6 := blk_frozen BK40001.out 6; have hfz9_7 := blk_frozen BK40001.out 7; have hfz9_8 := blk_frozen BK40001.out 8) | ((with_reducible refine gate_callee (f := 20) rfl ?_); refine goesL_ (some 8) rfl rfl Try.func20 (by kernel_rfl) rfl #[.agg #[.int .i64 a0_0, .int .i64 a0_1, .int .i64 a0_2, .slice A0_3 l0_3.length c0_3], .int .i64 a1] rfl (by (try simp only [List.map_toArray, List.map_cons, List.map_nil]); first | done | rfl | (simp only [List.length_drop, List.length_take]; rfl)) ?_; (with_reducible refine (laws_szImage.calls a0_0 a0_1 a0_2 _ _ l0_3 a1 t40002 _ ?side1 ?side2 A3.out).mono ?_); (case side1 => repeat (first | exact (Kd.C_below HR0_3.out HB.out) | (with_reducible refine Kd.C_alloc ?_ _) | (with_reducible refine Kd.C_drewN ?_ _) | (with_reducible refine Kd.C_drew ?_))); (case side2 => exact HC0_3.out); rintro e w10 ⟨rfl, hb⟩; refine ⟨_, rfl, ?_⟩; have n0_ := Aside0.mk (blk_below (g := gb40001) (o := .cells #[.int .i64 a0_0, .int .i64 a0_1, .int .i64 a0_2, .slice A0_3 l0_3.length c0_3, .int .i64 a0_4, .int .i64 a0_5, .int .i64 a0_6, .int .i64 a0_7, .bool a0_8] 51 (0, 0)) (by (with_reducible repeat (first | refine blk_drewN ?_ _ | refine blk_drew ?_ | refine blk_alloc ?_ _)); exact BK40001.out) hb); have n1_ := Aside0.mk (below_step (by repeat (first | (with_reducible first | exact HB.out | apply below_alloc | apply pw_below_drewN | apply below_drew1 | refine below_set ?_ GE40001.out) | exact HB.out)) hb); clear BK40001; clear HB; have BK40001 := n0_; have HB := n1_; clear n0_ n1_; (try clear hb); (try clear hb2); (try clear hk); (try clear hi)))
    go_ret
    exact ⟨by first | rfl | (simp [errW_none, errW_some] <;> rfl) | (simp [*, errW_none, errW_some] <;> rfl), by repeat (first | (with_reducible first | exact HB.out | apply below_alloc | apply pw_below_drewN | apply below_drew1 | refine below_set ?_ GE40001.out) | exact HB.out)⟩


def laws_toLayer.f (k : Nat) (a0_0 : Int) (a0_1 : Int) (a0_2 : Int) (l0_3 : List Int) (a0_4 : Int) (a0_5 : Int) (a0_6 : Int) (a0_7 : Int) (a0_8 : Bool) : Option (Int × Int × Int × List Int × Int × Int × Int × Int × Bool) := (laws_toImage.f k a0_0 a0_1 a0_2 l0_3).bind fun bt42004 => (some (bt42004.1, bt42004.2.1, bt42004.2.2.1, bt42004.2.2.2, a0_4, a0_5, a0_6, a0_7, a0_8))
theorem laws_toLayer.mono : ∀ a0 a1 a2 a3 a4 a5 a6 a7 a8 k, LeO (laws_toLayer.f k a0 a1 a2 a3 a4 a5 a6 a7 a8) (laws_toLayer.f (k + 1) a0 a1 a2 a3 a4 a5 a6 a7 a8) := by
  intro a0 a1 a2 a3 a4 a5 a6 a7 a8 k
  unfold laws_toLayer.f
  repeat' first
      | (with_reducible exact laws_toImage.mono _ _ _ _ _)
      | (with_reducible exact LeO.refl _)
      | (with_reducible exact LeO.none _)
      | (with_reducible refine LeO.ite ?_ ?_)
      | (with_reducible refine LeO.bind ?_ (fun _ => ?_))
      | exact laws_toImage.mono _ _ _ _ _
      | exact LeO.none _
      | refine LeO.ite ?_ ?_
      | refine LeO.bind ?_ (fun _ => ?_)
set_option maxHeartbeats 8000000 in
set_option maxRecDepth 100000 in
theorem laws_toLayer.calls (k : Nat) (a0_0 : Int) (a0_1 : Int) (a0_2 : Int) (A0_3 : Option Addr) (c0_3 : Nat) (l0_3 : List Int) (a0_4 : Int) (a0_5 : Int) (a0_6 : Int) (a0_7 : Int) (a0_8 : Bool) (r1 : Int) (r2 : Int) (r3 : Int) (r4 : List Int) (r5 : Int) (r6 : Int) (r7 : Int) (r8 : Int) (r9 : Bool) (w : World) (hr0_3 : Kd.C (Kd.int .i64) w A0_3 l0_3.length l0_3) (hc0_3 : l0_3.length ≤ c0_3) (h : laws_toLayer.f k a0_0 a0_1 a0_2 l0_3 a0_4 a0_5 a0_6 a0_7 a0_8 = some (r1, r2, r3, r4, r5, r6, r7, r8, r9)) :
    Calls Try.prog 41 #[.agg #[.int .i64 a0_0, .int .i64 a0_1, .int .i64 a0_2, .slice A0_3 l0_3.length c0_3, .int .i64 a0_4, .int .i64 a0_5, .int .i64 a0_6, .int .i64 a0_7, .bool a0_8]] w fun e w' => ∃ v3_ : Value, e = .returned (.agg #[.int .i64 r1, .int .i64 r2, .int .i64 r3, v3_, .int .i64 r5, .int .i64 r6, .int .i64 r7, .int .i64 r8, .bool r9]) ∧ Kd.R (Kd.int .i64) 3 w' w.heap.size (fun _ => True) v3_ r4 ∧ Below w.heap.size w w' := by
  have hu51 := Try.underlying51
  have hu55 := Try.underlying55
  have hu24 := Try.underlying24
  have hu27 := Try.underlying27
  have HR0_3 := Aside0.mk hr0_3
  have HC0_3 := Aside0.mk hc0_3
  clear hr0_3 hc0_3
  have HB := Aside0.mk (Below.refl w.heap.size w)
  have H : ((laws_toImage.f k a0_0 a0_1 a0_2 l0_3).bind fun bt42004 => (some (bt42004.1, bt42004.2.1, bt42004.2.2.1, bt42004.2.2.2, a0_4, a0_5, a0_6, a0_7, a0_8))) = some (r1, r2, r3, r4, r5, r6, r7, r8, r9) := h
  clear h
  replace H := Option.bind_eq_some_iff.mp H
  obtain ⟨⟨t42004, t42005, t42006, t42007⟩, A20, H⟩ := H
  replace H : (some (t42004, t42005, t42006, t42007, a0_4, a0_5, a0_6, a0_7, a0_8)) = some (r1, r2, r3, r4, r5, r6, r7, r8, r9) := H
  have A2 := Aside0.mk A20
  clear A20
  simp only [Option.some.injEq, Prod.mk.injEq] at H
  obtain ⟨rfl, rfl, rfl, rfl, rfl, rfl, rfl, rfl, rfl⟩ := H
  go_enter Try.func41, Try.ntmps41
  go_wp2_with (first | ((with_reducible refine gate_dst (N := 1) rfl ?_); refine box_event ?hg (N := 1) ?hd (cs := #[.int .i64 a0_0, .int .i64 a0_1, .int .i64 a0_2, .slice A0_3 l0_3.length c0_3, .int .i64 a0_4, .int .i64 a0_5, .int .i64 a0_6, .int .i64 a0_7, .bool a0_8]) (t := 51) ?hr ?_; (case hd => rfl); (case hg => rfl); (case hr => first | (go_simp; done) | (go_simp; rfl)); intro gb42001 hg w3 hbox hb; have n0_ := Aside0.mk (below_step (by repeat (first | (with_reducible first | exact HB.out | apply below_alloc | apply pw_below_drewN | apply below_drew1) | exact HB.out)) hb); have n1_ := Aside0.mk (hbox); have n2_ := Aside0.mk ((by rw [hg]; exact (below_size (by repeat (first | (with_reducible first | exact HB.out | apply below_alloc | apply pw_below_drewN | apply below_drew1) | exact HB.out))) : w.heap.size ≤ gb42001)); have n3_ := Aside0.mk ((by rw [hg]; exact (below_size (by repeat (first | (with_reducible first | exact HB.out | apply below_alloc | apply pw_below_drewN | apply below_drew1) | exact HB.out))) : w.heap.size ≤ gb42001)); clear HB; have HB := n0_; have BK42001 := n1_; have GW42001 := n2_; have GE42001 := n3_; clear n0_ n1_ n2_ n3_; clear hb hbox hg) | ((with_reducible refine gate_dst (N := 2) rfl ?_); refine box_event ?hg (N := 2) ?hd (cs := #[.int .i64 0, .int .i64 0, .int .i64 0, .slice none 0 0, .int .i64 0, .int .i64 0, .int .i64 0, .int .i64 0, .bool false]) (t := 55) ?hr ?_; (case hd => rfl); (case hg => rfl); (case hr => first | (go_simp; done) | (go_simp; rfl)); intro gb42002 hg w4 hbox hb; have n0_ := Aside0.mk (blk_below (g := gb42001) (o := .cells #[.int .i64 a0_0, .int .i64 a0_1, .int .i64 a0_2, .slice A0_3 l0_3.length c0_3, .int .i64 a0_4, .int .i64 a0_5, .int .i64 a0_6, .int .i64 a0_7, .bool a0_8] 51 (0, 0)) (by (with_reducible repeat (first | refine blk_drewN ?_ _ | refine blk_drew ?_ | refine blk_alloc ?_ _)); exact BK42001.out) hb); have n1_ := Aside0.mk (below_step (by repeat (first | (with_reducible first | exact HB.out | apply below_alloc | apply pw_below_drewN | apply below_drew1 | refine below_set ?_ GE42001.out) | exact HB.out)) hb); have n2_ := Aside0.mk (hbox); have n3_ := Aside0.mk ((by rw [hg]; exact (below_size (by repeat (first | (with_reducible first | exact HB.out | apply below_alloc | apply pw_below_drewN | apply below_drew1 | refine below_set ?_ GE42001.out) | exact HB.out))) : w.heap.size ≤ gb42002)); have n4_ := Aside0.mk ((by rw [hg]; exact (below_size (by repeat (first | (with_reducible first | exact HB.out | apply below_alloc | apply pw_below_drewN | apply below_drew1 | refine below_set ?_ GE42001.out) | exact HB.out))) : w.heap.size ≤ gb42002)); have n5_ := Aside0.mk ((by rw [hg]; exact Nat.ne_of_lt (blk_lt (g := gb42001) (o := .cells #[.int .i64 a0_0, .int .i64 a0_1, .int .i64 a0_2, .slice A0_3 l0_3.length c0_3, .int .i64 a0_4, .int .i64 a0_5, .int .i64 a0_6, .int .i64 a0_7, .bool a0_8] 51 (0, 0)) (by (with_reducible repeat (first | refine blk_drewN ?_ _ | refine blk_drew ?_ | refine blk_alloc ?_ _)); exact BK42001.out)) : gb42001 ≠ gb42002)); have n6_ := Aside0.mk ((by rw [hg]; exact Nat.ne_of_gt (blk_lt (g := gb42001) (o := .cells #[.int .i64 a0_0, .int .i64 a0_1, .int .i64 a0_2, .slice A0_3 l0_3.length c0_3, .int .i64 a0_4, .int .i64 a0_5, .int .i64 a0_6, .int .i64 a0_7, .bool a0_8] 51 (0, 0)) (by (with_reducible repeat (first | refine blk_drewN ?_ _ | refine blk_drew ?_ | refine blk_alloc ?_ _)); exact BK42001.out)) : gb42002 ≠ gb42001)); clear BK42001; clear HB; have BK42001 := n0_; have HB := n1_; have BK42002 := n2_; have GW42002 := n3_; have GE42002 := n4_; have NB42001_42002 := n5_; have NB42002_42001 := n6_; clear n0_ n1_ n2_ n3_ n4_ n5_ n6_; clear hb hbox hg) | ((with_reducible refine gate_dst (N := 3) rfl ?_); refine box_event ?hg (N := 3) ?hd (cs := #[.int .i64 0, .int .i64 0, .int .i64 0, .slice none 0 0, .int .i64 0, .int .i64 0, .int .i64 0, .int .i64 0, .bool false]) (t := 55) ?hr ?_; (case hd => rfl); (case hg => rfl); (case hr => first | (go_simp; done) | (go_simp; rfl)); intro gb42003 hg w5 hbox hb; have n0_ := Aside0.mk (blk_below (g := gb42001) (o := .cells #[.int .i64 a0_0, .int .i64 a0_1, .int .i64 a0_2, .slice A0_3 l0_3.length c0_3, .int .i64 a0_4, .int .i64 a0_5, .int .i64 a0_6, .int .i64 a0_7, .bool a0_8] 51 (0, 0)) (by (with_reducible repeat (first | refine blk_drewN ?_ _ | refine blk_drew ?_ | refine blk_alloc ?_ _)); exact BK42001.out) hb); have n1_ := Aside0.mk (blk_below (g := gb42002) (o := .cells #[.int .i64 0, .int .i64 0, .int .i64 0, .slice none 0 0, .int .i64 0, .int .i64 0, .int .i64 0, .int .i64 0, .bool false] 55 (0, 0)) (by (with_reducible repeat (first | refine blk_drewN ?_ _ | refine blk_drew ?_ | refine blk_alloc ?_ _)); exact BK42002.out) hb); have n2_ := Aside0.mk (below_step (by repeat (first | (with_reducible first | exact HB.out | apply below_alloc | apply pw_below_drewN | apply below_drew1 | refine below_set ?_ GE42001.out | refine below_set ?_ GE42002.out) | exact HB.out)) hb); have n3_ := Aside0.mk (hbox); have n4_ := Aside0.mk ((by rw [hg]; exact (below_size (by repeat (first | (with_reducible first | exact HB.out | apply below_alloc | apply pw_below_drewN | apply below_drew1 | refine below_set ?_ GE42001.out | refine below_set ?_ GE42002.out) | exact HB.out))) : w.heap.size ≤ gb42003)); have n5_ := Aside0.mk ((by rw [hg]; exact (below_size (by repeat (first | (with_reducible first | exact HB.out | apply below_alloc | apply pw_below_drewN | apply below_drew1 | refine below_set ?_ GE42001.out | refine below_set ?_ GE42002.out) | exact HB.out))) : w.heap.size ≤ gb42003)); have n6_ := Aside0.mk ((by rw [hg]; exact Nat.ne_of_lt (blk_lt (g := gb42001) (o := .cells #[.int .i64 a0_0, .int .i64 a0_1, .int .i64 a0_2, .slice A0_3 l0_3.length c0_3, .int .i64 a0_4, .int .i64 a0_5, .int .i64 a0_6, .int .i64 a0_7, .bool a0_8] 51 (0, 0)) (by (with_reducible repeat (first | refine blk_drewN ?_ _ | refine blk_drew ?_ | refine blk_alloc ?_ _)); exact BK42001.out)) : gb42001 ≠ gb42003)); have n7_ := Aside0.mk ((by rw [hg]; exact Nat.ne_of_gt (blk_lt (g := gb42001) (o := .cells #[.int .i64 a0_0, .int .i64 a0_1, .int .i64 a0_2, .slice A0_3 l0_3.length c0_3, .int .i64 a0_4, .int .i64 a0_5, .int .i64 a0_6, .int .i64 a0_7, .bool a0_8] 51 (0, 0)) (by (with_reducible repeat (first | refine blk_drewN ?_ _ | refine blk_drew ?_ | refine blk_alloc ?_ _)); exact BK42001.out)) : gb42003 ≠ gb42001)); have n8_ := Aside0.mk ((by rw [hg]; exact Nat.ne_of_lt (blk_lt (g := gb42002) (o := .cells #[.int .i64 0, .int .i64 0, .int .i64 0, .slice none 0 0, .int .i64 0, .int .i64 0, .int .i64 0, .int .i64 0, .bool false] 55 (0, 0)) (by (with_reducible repeat (first | refine blk_drewN ?_ _ | refine blk_drew ?_ | refine blk_alloc ?_ _)); exact BK42002.out)) : gb42002 ≠ gb42003)); have n9_ := Aside0.mk ((by rw [hg]; exact Nat.ne_of_gt (blk_lt (g := gb42002) (o := .cells #[.int .i64 0, .int .i64 0, .int .i64 0, .slice none 0 0, .int .i64 0, .int .i64 0, .int .i64 0, .int .i64 0, .bool false] 55 (0, 0)) (by (with_reducible repeat (first | refine blk_drewN ?_ _ | refine blk_drew ?_ | refine blk_alloc ?_ _)); exact BK42002.out)) : gb42003 ≠ gb42002)); clear BK42001; clear BK42002; clear HB; have BK42001 := n0_; have BK42002 := n1_; have HB := n2_; have BK42003 := n3_; have GW42003 := n4_; have GE42003 := n5_; have NB42001_42003 := n6_; have NB42003_42001 := n7_; have NB42002_42003 := n8_; have NB42003_42002 := n9_; clear n0_ n1_ n2_ n3_ n4_ n5_ n6_ n7_ n8_ n9_; clear hb hbox hg; have hnb6 := NB42001_42002.out; have hnc6 := NB42002_42001.out; have hnb7 := NB42001_42003.out; have hnc7 := NB42003_42001.out; have hcz8_0 : w5.cell? ⟨gb42001, 0, none⟩ = some (.int .i64 a0_0) := (blk_cell BK42001.out 0).trans rfl; have hcz8_1 : w5.cell? ⟨gb42001, 1, none⟩ = some (.int .i64 a0_1) := (blk_cell BK42001.out 1).trans rfl; have hcz8_2 : w5.cell? ⟨gb42001, 2, none⟩ = some (.int .i64 a0_2) := (blk_cell BK42001.out 2).trans rfl; have hcz8_3 : w5.cell? ⟨gb42001, 3, none⟩ = some (.slice A0_3 l0_3.length c0_3) := (blk_cell BK42001.out 3).trans rfl; have hcz8_4 : w5.cell? ⟨gb42001, 4, none⟩ = some (.int .i64 a0_4) := (blk_cell BK42001.out 4).trans rfl; have hcz8_5 : w5.cell? ⟨gb42001, 5, none⟩ = some (.int .i64 a0_5) := (blk_cell BK42001.out 5).trans rfl; have hcz8_6 : w5.cell? ⟨gb42001, 6, none⟩ = some (.int .i64 a0_6) := (blk_cell BK42001.out 6).trans rfl; have hcz8_7 : w5.cell? ⟨gb42001, 7, none⟩ = some (.int .i64 a0_7) := (blk_cell BK42001.out 7).trans rfl; have hcz8_8 : w5.cell? ⟨gb42001, 8, none⟩ = some (.bool a0_8) := (blk_cell BK42001.out 8).trans rfl; have hfz8_0 := blk_frozen BK42001.out 0; have hfz8_1 := blk_frozen BK42001.out 1; have hfz8_2 := blk_frozen BK42001.out 2; have hfz8_3 := blk_frozen BK42001.out 3; have hfz8_4 := blk_frozen BK42001.out 4; have hfz8_5 := blk_frozen BK42001.out 5; have hfz8_6 := blk_frozen BK42001.out 6; have hfz8_7 := blk_frozen BK42001.out 7; have hfz8_8 := blk_frozen BK42001.out 8) | ((with_reducible refine gate_callee (f := 22) rfl ?_); refine goesL_ (some 6) rfl rfl Try.func22 (by kernel_rfl) rfl #[.agg #[.int .i64 a0_0, .int .i64 a0_1, .int .i64 a0_2, .slice A0_3 l0_3.length c0_3]] rfl (by (try simp only [List.map_toArray, List.map_cons, List.map_nil]); first | done | rfl | (simp only [List.length_drop, List.length_take]; rfl)) ?_; (with_reducible refine (laws_toImage.calls k a0_0 a0_1 a0_2 _ _ l0_3 t42004 t42005 t42006 t42007 _ ?side1 ?side2 A2.out).mono ?_); (case side1 => repeat (first | exact (Kd.C_below HR0_3.out HB.out) | (with_reducible refine Kd.C_alloc ?_ _) | (with_reducible refine Kd.C_drewN ?_ _) | (with_reducible refine Kd.C_drew ?_))); (case side2 => exact HC0_3.out); rintro e w9 ⟨v42008, rfl, ho0, hb⟩; refine ⟨_, rfl, ?_⟩; have n0_ := Aside0.mk (Kd.R_lower ho0 (below_size (by repeat (first | (with_reducible first | exact HB.out | apply below_alloc | apply pw_below_drewN | apply below_drew1 | refine below_set ?_ GE42001.out | refine below_set ?_ GE42002.out | refine below_set ?_ GE42003.out) | exact HB.out)))); have n1_ := Aside0.mk (blk_below (g := gb42001) (o := .cells #[.int .i64 a0_0, .int .i64 a0_1, .int .i64 a0_2, .slice A0_3 l0_3.length c0_3, .int .i64 a0_4, .int .i64 a0_5, .int .i64 a0_6, .int .i64 a0_7, .bool a0_8] 51 (0, 0)) (by (with_reducible repeat (first | refine blk_drewN ?_ _ | refine blk_drew ?_ | refine blk_alloc ?_ _)); exact BK42001.out) hb); have n2_ := Aside0.mk (blk_below (g := gb42002) (o := .cells #[.int .i64 0, .int .i64 0, .int .i64 0, .slice none 0 0, .int .i64 0, .int .i64 0, .int .i64 0, .int .i64 0, .bool false] 55 (0, 0)) (by (with_reducible repeat (first | refine blk_drewN ?_ _ | refine blk_drew ?_ | refine blk_alloc ?_ _)); exact BK42002.out) hb); have n3_ := Aside0.mk (blk_below (g := gb42003) (o := .cells #[.int .i64 0, .int .i64 0, .int .i64 0, .slice none 0 0, .int .i64 0, .int .i64 0, .int .i64 0, .int .i64 0, .bool false] 55 (0, 0)) (by (with_reducible repeat (first | refine blk_drewN ?_ _ | refine blk_drew ?_ | refine blk_alloc ?_ _)); exact BK42003.out) hb); have n4_ := Aside0.mk (below_step (by repeat (first | (with_reducible first | exact HB.out | apply below_alloc | apply pw_below_drewN | apply below_drew1 | refine below_set ?_ GE42001.out | refine below_set ?_ GE42002.out | refine below_set ?_ GE42003.out) | exact HB.out)) hb); clear BK42001; clear BK42002; clear BK42003; clear HB; have HO42009 := n0_; have BK42001 := n1_; have BK42002 := n2_; have BK42003 := n3_; have HB := n4_; clear n0_ n1_ n2_ n3_ n4_; (try clear hb); (try clear hb2); (try clear hk); (try clear hi); (try clear ho0); have hnb10 := NB42003_42002.out; have hnc10 := NB42002_42003.out; have hcz11_0 : w9.cell? ⟨gb42003, 0, none⟩ = some (.int .i64 0) := (blk_cell BK42003.out 0).trans rfl; have hcz11_1 : w9.cell? ⟨gb42003, 1, none⟩ = some (.int .i64 0) := (blk_cell BK42003.out 1).trans rfl; have hcz11_2 : w9.cell? ⟨gb42003, 2, none⟩ = some (.int .i64 0) := (blk_cell BK42003.out 2).trans rfl; have hcz11_3 : w9.cell? ⟨gb42003, 3, none⟩ = some (.slice none 0 0) := (blk_cell BK42003.out 3).trans rfl; have hcz11_4 : w9.cell? ⟨gb42003, 4, none⟩ = some (.int .i64 0) := (blk_cell BK42003.out 4).trans rfl; have hcz11_5 : w9.cell? ⟨gb42003, 5, none⟩ = some (.int .i64 0) := (blk_cell BK42003.out 5).trans rfl; have hcz11_6 : w9.cell? ⟨gb42003, 6, none⟩ = some (.int .i64 0) := (blk_cell BK42003.out 6).trans rfl; have hcz11_7 : w9.cell? ⟨gb42003, 7, none⟩ = some (.int .i64 0) := (blk_cell BK42003.out 7).trans rfl; have hcz11_8 : w9.cell? ⟨gb42003, 8, none⟩ = some (.bool false) := (blk_cell BK42003.out 8).trans rfl; have hfz11_0 := blk_frozen BK42003.out 0; have hfz11_1 := blk_frozen BK42003.out 1; have hfz11_2 := blk_frozen BK42003.out 2; have hfz11_3 := blk_frozen BK42003.out 3; have hfz11_4 := blk_frozen BK42003.out 4; have hfz11_5 := blk_frozen BK42003.out 5; have hfz11_6 := blk_frozen BK42003.out 6; have hfz11_7 := blk_frozen BK42003.out 7; have hfz11_8 := blk_frozen BK42003.out 8; obtain ⟨Ao12, co12, eo12⟩ := Kd.R_slice HO42009.out; subst eo12; have hcz13_0 : w9.cell? ⟨gb42001, 0, none⟩ = some (.int .i64 a0_0) := (blk_cell BK42001.out 0).trans rfl; have hcz13_1 : w9.cell? ⟨gb42001, 1, none⟩ = some (.int .i64 a0_1) := (blk_cell BK42001.out 1).trans rfl; have hcz13_2 : w9.cell? ⟨gb42001, 2, none⟩ = some (.int .i64 a0_2) := (blk_cell BK42001.out 2).trans rfl; have hcz13_3 : w9.cell? ⟨gb42001, 3, none⟩ = some (.slice A0_3 l0_3.length c0_3) := (blk_cell BK42001.out 3).trans rfl; have hcz13_4 : w9.cell? ⟨gb42001, 4, none⟩ = some (.int .i64 a0_4) := (blk_cell BK42001.out 4).trans rfl; have hcz13_5 : w9.cell? ⟨gb42001, 5, none⟩ = some (.int .i64 a0_5) := (blk_cell BK42001.out 5).trans rfl; have hcz13_6 : w9.cell? ⟨gb42001, 6, none⟩ = some (.int .i64 a0_6) := (blk_cell BK42001.out 6).trans rfl; have hcz13_7 : w9.cell? ⟨gb42001, 7, none⟩ = some (.int .i64 a0_7) := (blk_cell BK42001.out 7).trans rfl; have hcz13_8 : w9.cell? ⟨gb42001, 8, none⟩ = some (.bool a0_8) := (blk_cell BK42001.out 8).trans rfl; have hfz13_0 := blk_frozen BK42001.out 0; have hfz13_1 := blk_frozen BK42001.out 1; have hfz13_2 := blk_frozen BK42001.out 2; have hfz13_3 := blk_frozen BK42001.out 3; have hfz13_4 := blk_frozen BK42001.out 4; have hfz13_5 := blk_frozen BK42001.out 5; have hfz13_6 := blk_frozen BK42001.out 6; have hfz13_7 := blk_frozen BK42001.out 7; have hfz13_8 := blk_frozen BK42001.out 8; have hcz14_0 : w9.cell? ⟨gb42002, 0, none⟩ = some (.int .i64 0) := (blk_cell BK42002.out 0).trans rfl; have hcz14_1 : w9.cell? ⟨gb42002, 1, none⟩ = some (.int .i64 0) := (blk_cell BK42002.out 1).trans rfl; have hcz14_2 : w9.cell? ⟨gb42002, 2, none⟩ = some (.int .i64 0) := (blk_cell BK42002.out 2).trans rfl; have hcz14_3 : w9.cell? ⟨gb42002, 3, none⟩ = some (.slice none 0 0) := (blk_cell BK42002.out 3).trans rfl; have hcz14_4 : w9.cell? ⟨gb42002, 4, none⟩ = some (.int .i64 0) := (blk_cell BK42002.out 4).trans rfl; have hcz14_5 : w9.cell? ⟨gb42002, 5, none⟩ = some (.int .i64 0) := (blk_cell BK42002.out 5).trans rfl; have hcz14_6 : w9.cell? ⟨gb42002, 6, none⟩ = some (.int .i64 0) := (blk_cell BK42002.out 6).trans rfl; have hcz14_7 : w9.cell? ⟨gb42002, 7, none⟩ = some (.int .i64 0) := (blk_cell BK42002.out 7).trans rfl; have hcz14_8 : w9.cell? ⟨gb42002, 8, none⟩ = some (.bool false) := (blk_cell BK42002.out 8).trans rfl; have hfz14_0 := blk_frozen BK42002.out 0; have hfz14_1 := blk_frozen BK42002.out 1; have hfz14_2 := blk_frozen BK42002.out 2; have hfz14_3 := blk_frozen BK42002.out 3; have hfz14_4 := blk_frozen BK42002.out 4; have hfz14_5 := blk_frozen BK42002.out 5; have hfz14_6 := blk_frozen BK42002.out 6; have hfz14_7 := blk_frozen BK42002.out 7; have hfz14_8 := blk_frozen BK42002.out 8))
  refine bodyPost_ret (results_cell_row rfl _ _ gb42002 55 #[.int .i64 t42004, .int .i64 t42005, .int .i64 t42006, .slice Ao12 t42007.length co12, .int .i64 a0_4, .int .i64 a0_5, .int .i64 a0_6, .int .i64 a0_7, .bool a0_8] (0, 0) _ rfl (by (with_reducible repeat (first | refine blk_drewN ?_ _ | refine blk_drew ?_ | refine blk_alloc ?_ _)); refine blk_put (cs := #[.int .i64 t42004, .int .i64 t42005, .int .i64 t42006, .slice Ao12 t42007.length co12, .int .i64 a0_4, .int .i64 a0_5, .int .i64 a0_6, .int .i64 a0_7, .bool false]) ?_ 8 _ rfl; (with_reducible repeat (first | refine blk_drewN ?_ _ | refine blk_drew ?_ | refine blk_alloc ?_ _)); refine blk_put (cs := #[.int .i64 t42004, .int .i64 t42005, .int .i64 t42006, .slice Ao12 t42007.length co12, .int .i64 a0_4, .int .i64 a0_5, .int .i64 a0_6, .int .i64 0, .bool false]) ?_ 7 _ rfl; (with_reducible repeat (first | refine blk_drewN ?_ _ | refine blk_drew ?_ | refine blk_alloc ?_ _)); refine blk_put (cs := #[.int .i64 t42004, .int .i64 t42005, .int .i64 t42006, .slice Ao12 t42007.length co12, .int .i64 a0_4, .int .i64 a0_5, .int .i64 0, .int .i64 0, .bool false]) ?_ 6 _ rfl; (with_reducible repeat (first | refine blk_drewN ?_ _ | refine blk_drew ?_ | refine blk_alloc ?_ _)); refine blk_put (cs := #[.int .i64 t42004, .int .i64 t42005, .int .i64 t42006, .slice Ao12 t42007.length co12, .int .i64 a0_4, .int .i64 0, .int .i64 0, .int .i64 0, .bool false]) ?_ 5 _ rfl; (with_reducible repeat (first | refine blk_drewN ?_ _ | refine blk_drew ?_ | refine blk_alloc ?_ _)); refine blk_put (cs := #[.int .i64 t42004, .int .i64 t42005, .int .i64 t42006, .slice Ao12 t42007.length co12, .int .i64 0, .int .i64 0, .int .i64 0, .int .i64 0, .bool false]) ?_ 4 _ rfl; (with_reducible repeat (first | refine blk_drewN ?_ _ | refine blk_drew ?_ | refine blk_alloc ?_ _)); refine blk_put (cs := #[.int .i64 t42004, .int .i64 t42005, .int .i64 t42006, .slice none 0 0, .int .i64 0, .int .i64 0, .int .i64 0, .int .i64 0, .bool false]) ?_ 3 _ rfl; (with_reducible repeat (first | refine blk_drewN ?_ _ | refine blk_drew ?_ | refine blk_alloc ?_ _)); refine blk_put (cs := #[.int .i64 t42004, .int .i64 t42005, .int .i64 0, .slice none 0 0, .int .i64 0, .int .i64 0, .int .i64 0, .int .i64 0, .bool false]) ?_ 2 _ rfl; (with_reducible repeat (first | refine blk_drewN ?_ _ | refine blk_drew ?_ | refine blk_alloc ?_ _)); refine blk_put (cs := #[.int .i64 t42004, .int .i64 0, .int .i64 0, .slice none 0 0, .int .i64 0, .int .i64 0, .int .i64 0, .int .i64 0, .bool false]) ?_ 1 _ rfl; (with_reducible repeat (first | refine blk_drewN ?_ _ | refine blk_drew ?_ | refine blk_alloc ?_ _)); refine blk_put (cs := #[.int .i64 0, .int .i64 0, .int .i64 0, .slice none 0 0, .int .i64 0, .int .i64 0, .int .i64 0, .int .i64 0, .bool false]) ?_ 0 _ rfl; (with_reducible repeat (first | refine blk_drewN ?_ _ | refine blk_drew ?_ | refine blk_alloc ?_ _)); refine blk_far ?_ NB42002_42003.out _; (with_reducible repeat (first | refine blk_drewN ?_ _ | refine blk_drew ?_ | refine blk_alloc ?_ _)); refine blk_far ?_ NB42002_42003.out _; (with_reducible repeat (first | refine blk_drewN ?_ _ | refine blk_drew ?_ | refine blk_alloc ?_ _)); refine blk_far ?_ NB42002_42003.out _; (with_reducible repeat (first | refine blk_drewN ?_ _ | refine blk_drew ?_ | refine blk_alloc ?_ _)); refine blk_far ?_ NB42002_42003.out _; (with_reducible repeat (first | refine blk_drewN ?_ _ | refine blk_drew ?_ | refine blk_alloc ?_ _)); refine blk_far ?_ NB42002_42003.out _; (with_reducible repeat (first | refine blk_drewN ?_ _ | refine blk_drew ?_ | refine blk_alloc ?_ _)); refine blk_far ?_ NB42002_42003.out _; (with_reducible repeat (first | refine blk_drewN ?_ _ | refine blk_drew ?_ | refine blk_alloc ?_ _)); refine blk_far ?_ NB42002_42003.out _; (with_reducible repeat (first | refine blk_drewN ?_ _ | refine blk_drew ?_ | refine blk_alloc ?_ _)); refine blk_far ?_ NB42002_42003.out _; (with_reducible repeat (first | refine blk_drewN ?_ _ | refine blk_drew ?_ | refine blk_alloc ?_ _)); refine blk_far ?_ NB42002_42003.out _; (with_reducible repeat (first | refine blk_drewN ?_ _ | refine blk_drew ?_ | refine blk_alloc ?_ _)); exact BK42002.out) Try.underlying55 rfl (by kernel_rfl)) rfl ?_
  exact ⟨_, by first | rfl | (simp [errW_none, errW_some] <;> rfl) | (simp [*, errW_none, errW_some] <;> rfl), by (with_reducible repeat (first | apply Kd.R_alloc | apply Kd.R_drewN | apply Kd.R_drew)); exact Kd.R_mono (Kd.R_far (p := ⟨gb42002, 8, none⟩) (Kd.R_far (p := ⟨gb42002, 7, none⟩) (Kd.R_far (p := ⟨gb42002, 6, none⟩) (Kd.R_far (p := ⟨gb42002, 5, none⟩) (Kd.R_far (p := ⟨gb42002, 4, none⟩) (Kd.R_far (p := ⟨gb42002, 3, none⟩) (Kd.R_far (p := ⟨gb42002, 2, none⟩) (Kd.R_far (p := ⟨gb42002, 1, none⟩) (Kd.R_far (p := ⟨gb42002, 0, none⟩) (Kd.R_far (p := ⟨gb42003, 8, none⟩) (Kd.R_far (p := ⟨gb42003, 7, none⟩) (Kd.R_far (p := ⟨gb42003, 6, none⟩) (Kd.R_far (p := ⟨gb42003, 5, none⟩) (Kd.R_far (p := ⟨gb42003, 4, none⟩) (Kd.R_far (p := ⟨gb42003, 3, none⟩) (Kd.R_far (p := ⟨gb42003, 2, none⟩) (Kd.R_far (p := ⟨gb42003, 1, none⟩) (Kd.R_far (p := ⟨gb42003, 0, none⟩) (Kd.R_types (Kd.R_types HO42009.out BK42003.out (by decide)) BK42002.out (by decide)) (fun _ hk => hk.1.2) (.int .i64 t42004)) (fun _ hk => hk.1.2) (.int .i64 t42005)) (fun _ hk => hk.1.2) (.int .i64 t42006)) (fun _ hk => hk.1.2) (.slice Ao12 t42007.length co12)) (fun _ hk => hk.1.2) (.int .i64 a0_4)) (fun _ hk => hk.1.2) (.int .i64 a0_5)) (fun _ hk => hk.1.2) (.int .i64 a0_6)) (fun _ hk => hk.1.2) (.int .i64 a0_7)) (fun _ hk => hk.1.2) (.bool a0_8)) (fun _ hk => hk.2) (.int .i64 t42004)) (fun _ hk => hk.2) (.int .i64 t42005)) (fun _ hk => hk.2) (.int .i64 t42006)) (fun _ hk => hk.2) (.slice Ao12 t42007.length co12)) (fun _ hk => hk.2) (.int .i64 a0_4)) (fun _ hk => hk.2) (.int .i64 a0_5)) (fun _ hk => hk.2) (.int .i64 a0_6)) (fun _ hk => hk.2) (.int .i64 a0_7)) (fun _ hk => hk.2) (.bool a0_8)) (fun _ hk => trivial), by repeat (first | (with_reducible first | exact HB.out | apply below_alloc | apply pw_below_drewN | apply below_drew1 | refine below_set ?_ GE42001.out | refine below_set ?_ GE42002.out | refine below_set ?_ GE42003.out) | exact HB.out)⟩


def laws_eqLayer.f (k : Nat) (a0_0 : Int) (a0_1 : Int) (a0_2 : Int) (l0_3 : List Int) (a0_4 : Int) (a0_5 : Int) (a0_6 : Int) (a0_7 : Int) (a0_8 : Bool) (a1_0 : Int) (a1_1 : Int) (a1_2 : Int) (l1_3 : List Int) (a1_4 : Int) (a1_5 : Int) (a1_6 : Int) (a1_7 : Int) (a1_8 : Bool) : Option (Bool) := (laws_eqImage.f k a0_0 a0_1 a0_2 l0_3 a1_0 a1_1 a1_2 l1_3).bind fun t45003 => (if t45003 = true then (if a0_4 = a1_4 then (if a0_5 = a1_5 then (if a0_6 = a1_6 then (if a0_7 = a1_7 then (if (a0_8 != a1_8) = true then (some false) else (some true)) else (some false)) else (some false)) else (some false)) else (some false)) else (some false))
theorem laws_eqLayer.mono : ∀ a0 a1 a2 a3 a4 a5 a6 a7 a8 a9 a10 a11 a12 a13 a14 a15 a16 a17 k, LeO (laws_eqLayer.f k a0 a1 a2 a3 a4 a5 a6 a7 a8 a9 a10 a11 a12 a13 a14 a15 a16 a17) (laws_eqLayer.f (k + 1) a0 a1 a2 a3 a4 a5 a6 a7 a8 a9 a10 a11 a12 a13 a14 a15 a16 a17) := by
  intro a0 a1 a2 a3 a4 a5 a6 a7 a8 a9 a10 a11 a12 a13 a14 a15 a16 a17 k
  unfold laws_eqLayer.f
  repeat' first
      | (with_reducible exact laws_eqImage.mono _ _ _ _ _ _ _ _ _)
      | (with_reducible exact LeO.refl _)
      | (with_reducible exact LeO.none _)
      | (with_reducible refine LeO.ite ?_ ?_)
      | (with_reducible refine LeO.bind ?_ (fun _ => ?_))
      | exact laws_eqImage.mono _ _ _ _ _ _ _ _ _
      | exact LeO.none _
      | refine LeO.ite ?_ ?_
      | refine LeO.bind ?_ (fun _ => ?_)
set_option maxHeartbeats 8000000 in
set_option maxRecDepth 100000 in
theorem laws_eqLayer.calls (k : Nat) (a0_0 : Int) (a0_1 : Int) (a0_2 : Int) (A0_3 : Option Addr) (c0_3 : Nat) (l0_3 : List Int) (a0_4 : Int) (a0_5 : Int) (a0_6 : Int) (a0_7 : Int) (a0_8 : Bool) (a1_0 : Int) (a1_1 : Int) (a1_2 : Int) (A1_3 : Option Addr) (c1_3 : Nat) (l1_3 : List Int) (a1_4 : Int) (a1_5 : Int) (a1_6 : Int) (a1_7 : Int) (a1_8 : Bool) (r : Bool) (w : World) (hr0_3 : Kd.C (Kd.int .i64) w A0_3 l0_3.length l0_3) (hc0_3 : l0_3.length ≤ c0_3) (hr1_3 : Kd.C (Kd.int .i64) w A1_3 l1_3.length l1_3) (hc1_3 : l1_3.length ≤ c1_3) (h : laws_eqLayer.f k a0_0 a0_1 a0_2 l0_3 a0_4 a0_5 a0_6 a0_7 a0_8 a1_0 a1_1 a1_2 l1_3 a1_4 a1_5 a1_6 a1_7 a1_8 = some r) (hrt : r = true) :
    Calls Try.prog 44 #[.agg #[.int .i64 a0_0, .int .i64 a0_1, .int .i64 a0_2, .slice A0_3 l0_3.length c0_3, .int .i64 a0_4, .int .i64 a0_5, .int .i64 a0_6, .int .i64 a0_7, .bool a0_8], .agg #[.int .i64 a1_0, .int .i64 a1_1, .int .i64 a1_2, .slice A1_3 l1_3.length c1_3, .int .i64 a1_4, .int .i64 a1_5, .int .i64 a1_6, .int .i64 a1_7, .bool a1_8]] w fun e w' => e = .returned (.bool r) ∧ Below w.heap.size w w' := by
  have HRT := Aside0.mk hrt
  clear hrt
  have hu55 := Try.underlying55
  have hu27 := Try.underlying27
  have HR0_3 := Aside0.mk hr0_3
  have HC0_3 := Aside0.mk hc0_3
  clear hr0_3 hc0_3
  have HR1_3 := Aside0.mk hr1_3
  have HC1_3 := Aside0.mk hc1_3
  clear hr1_3 hc1_3
  have HB := Aside0.mk (Below.refl w.heap.size w)
  have H : ((laws_eqImage.f k a0_0 a0_1 a0_2 l0_3 a1_0 a1_1 a1_2 l1_3).bind fun t45003 => (if t45003 = true then (if a0_4 = a1_4 then (if a0_5 = a1_5 then (if a0_6 = a1_6 then (if a0_7 = a1_7 then (if (a0_8 != a1_8) = true then (some false) else (some true)) else (some false)) else (some false)) else (some false)) else (some false)) else (some false))) = some r := h
  clear h
  replace H := Option.bind_eq_some_iff.mp H
  obtain ⟨t45003, A30, H⟩ := H
  replace H : (if t45003 = true then (if a0_4 = a1_4 then (if a0_5 = a1_5 then (if a0_6 = a1_6 then (if a0_7 = a1_7 then (if (a0_8 != a1_8) = true then (some false) else (some true)) else (some false)) else (some false)) else (some false)) else (some false)) else (some false)) = some r := H
  have A3 := Aside0.mk A30
  clear A30
  by_cases c4 : t45003 = true
  · subst c4
    have H1 : (if a0_4 = a1_4 then (if a0_5 = a1_5 then (if a0_6 = a1_6 then (if a0_7 = a1_7 then (if (a0_8 != a1_8) = true then (some false) else (some true)) else (some false)) else (some false)) else (some false)) else (some false)) = some r := by rw [if_pos rfl] at H; exact H
    clear H
    have H := H1
    clear H1
    by_cases c5 : a0_4 = a1_4
    · rw [if_pos c5] at H
      have c5b0 : (a0_4 == a1_4) = true := beq_iff_eq.mpr c5
      have c5b1 : (a0_4 != a1_4) = false := bne_eq_false_iff_eq.mpr c5
      clear c5
      by_cases c6 : a0_5 = a1_5
      · rw [if_pos c6] at H
        have c6b0 : (a0_5 == a1_5) = true := beq_iff_eq.mpr c6
        have c6b1 : (a0_5 != a1_5) = false := bne_eq_false_iff_eq.mpr c6
        clear c6
        by_cases c7 : a0_6 = a1_6
        · rw [if_pos c7] at H
          have c7b0 : (a0_6 == a1_6) = true := beq_iff_eq.mpr c7
          have c7b1 : (a0_6 != a1_6) = false := bne_eq_false_iff_eq.mpr c7
          clear c7
          by_cases c8 : a0_7 = a1_7
          · rw [if_pos c8] at H
            have c8b0 : (a0_7 == a1_7) = true := beq_iff_eq.mpr c8
            have c8b1 : (a0_7 != a1_7) = false := bne_eq_false_iff_eq.mpr c8
            clear c8
            by_cases c9 : (a0_8 != a1_8) = true
            · rw [if_pos c9] at H
              have c9b0 : (a0_8 != a1_8) = true := c9
              (try (have c9b1 : decide (a0_8 = a1_8) = false := by simpa using c9))
              (try (have c9b2 : (a0_8 == a1_8) = false := by simpa using c9))
              (try (have c9b3 : ¬ (a0_8 = a1_8) := by simpa using c9))
              clear c9
              exact absurd ((Option.some.inj H).trans HRT.out) (by decide)
            · rw [if_neg c9] at H
              have c9b0 : (a0_8 != a1_8) = false := by simpa using c9
              (try (have c9b1 : decide (a0_8 = a1_8) = true := by simpa using c9))
              (try (have c9b2 : (a0_8 == a1_8) = true := by simpa using c9))
              clear c9
              obtain rfl := Option.some.inj H
              go_enter Try.func44, Try.ntmps44
              go_wp2_with (first | ((with_reducible refine gate_dst (N := 2) rfl ?_); refine box_event ?hg (N := 2) ?hd (cs := #[.int .i64 a0_0, .int .i64 a0_1, .int .i64 a0_2, .slice A0_3 l0_3.length c0_3, .int .i64 a0_4, .int .i64 a0_5, .int .i64 a0_6, .int .i64 a0_7, .bool a0_8]) (t := 55) ?hr ?_; (case hd => rfl); (case hg => rfl); (case hr => first | (go_simp; done) | (go_simp; rfl)); intro gb45001 hg w18 hbox hb; have n0_ := Aside0.mk (below_step (by repeat (first | (with_reducible first | exact HB.out | apply below_alloc | apply pw_below_drewN | apply below_drew1) | exact HB.out)) hb); have n1_ := Aside0.mk (hbox); have n2_ := Aside0.mk ((by rw [hg]; exact (below_size (by repeat (first | (with_reducible first | exact HB.out | apply below_alloc | apply pw_below_drewN | apply below_drew1) | exact HB.out))) : w.heap.size ≤ gb45001)); have n3_ := Aside0.mk ((by rw [hg]; exact (below_size (by repeat (first | (with_reducible first | exact HB.out | apply below_alloc | apply pw_below_drewN | apply below_drew1) | exact HB.out))) : w.heap.size ≤ gb45001)); clear HB; have HB := n0_; have BK45001 := n1_; have GW45001 := n2_; have GE45001 := n3_; clear n0_ n1_ n2_ n3_; clear hb hbox hg) | ((with_reducible refine gate_dst (N := 3) rfl ?_); refine box_event ?hg (N := 3) ?hd (cs := #[.int .i64 a1_0, .int .i64 a1_1, .int .i64 a1_2, .slice A1_3 l1_3.length c1_3, .int .i64 a1_4, .int .i64 a1_5, .int .i64 a1_6, .int .i64 a1_7, .bool a1_8]) (t := 55) ?hr ?_; (case hd => rfl); (case hg => rfl); (case hr => first | (go_simp; done) | (go_simp; rfl)); intro gb45002 hg w19 hbox hb; have n0_ := Aside0.mk (blk_below (g := gb45001) (o := .cells #[.int .i64 a0_0, .int .i64 a0_1, .int .i64 a0_2, .slice A0_3 l0_3.length c0_3, .int .i64 a0_4, .int .i64 a0_5, .int .i64 a0_6, .int .i64 a0_7, .bool a0_8] 55 (0, 0)) (by (with_reducible repeat (first | refine blk_drewN ?_ _ | refine blk_drew ?_ | refine blk_alloc ?_ _)); exact BK45001.out) hb); have n1_ := Aside0.mk (below_step (by repeat (first | (with_reducible first | exact HB.out | apply below_alloc | apply pw_below_drewN | apply below_drew1 | refine below_set ?_ GE45001.out) | exact HB.out)) hb); have n2_ := Aside0.mk (hbox); have n3_ := Aside0.mk ((by rw [hg]; exact (below_size (by repeat (first | (with_reducible first | exact HB.out | apply below_alloc | apply pw_below_drewN | apply below_drew1 | refine below_set ?_ GE45001.out) | exact HB.out))) : w.heap.size ≤ gb45002)); have n4_ := Aside0.mk ((by rw [hg]; exact (below_size (by repeat (first | (with_reducible first | exact HB.out | apply below_alloc | apply pw_below_drewN | apply below_drew1 | refine below_set ?_ GE45001.out) | exact HB.out))) : w.heap.size ≤ gb45002)); have n5_ := Aside0.mk ((by rw [hg]; exact Nat.ne_of_lt (blk_lt (g := gb45001) (o := .cells #[.int .i64 a0_0, .int .i64 a0_1, .int .i64 a0_2, .slice A0_3 l0_3.length c0_3, .int .i64 a0_4, .int .i64 a0_5, .int .i64 a0_6, .int .i64 a0_7, .bool a0_8] 55 (0, 0)) (by (with_reducible repeat (first | refine blk_drewN ?_ _ | refine blk_drew ?_ | refine blk_alloc ?_ _)); exact BK45001.out)) : gb45001 ≠ gb45002)); have n6_ := Aside0.mk ((by rw [hg]; exact Nat.ne_of_gt (blk_lt (g := gb45001) (o := .cells #[.int .i64 a0_0, .int .i64 a0_1, .int .i64 a0_2, .slice A0_3 l0_3.length c0_3, .int .i64 a0_4, .int .i64 a0_5, .int .i64 a0_6, .int .i64 a0_7, .bool a0_8] 55 (0, 0)) (by (with_reducible repeat (first | refine blk_drewN ?_ _ | refine blk_drew ?_ | refine blk_alloc ?_ _)); exact BK45001.out)) : gb45002 ≠ gb45001)); clear BK45001; clear HB; have BK45001 := n0_; have HB := n1_; have BK45002 := n2_; have GW45002 := n3_; have GE45002 := n4_; have NB45001_45002 := n5_; have NB45002_45001 := n6_; clear n0_ n1_ n2_ n3_ n4_ n5_ n6_; clear hb hbox hg; have hnb20 := NB45001_45002.out; have hnc20 := NB45002_45001.out; have hcz21_0 : w19.cell? ⟨gb45001, 0, none⟩ = some (.int .i64 a0_0) := (blk_cell BK45001.out 0).trans rfl; have hcz21_1 : w19.cell? ⟨gb45001, 1, none⟩ = some (.int .i64 a0_1) := (blk_cell BK45001.out 1).trans rfl; have hcz21_2 : w19.cell? ⟨gb45001, 2, none⟩ = some (.int .i64 a0_2) := (blk_cell BK45001.out 2).trans rfl; have hcz21_3 : w19.cell? ⟨gb45001, 3, none⟩ = some (.slice A0_3 l0_3.length c0_3) := (blk_cell BK45001.out 3).trans rfl; have hcz21_4 : w19.cell? ⟨gb45001, 4, none⟩ = some (.int .i64 a0_4) := (blk_cell BK45001.out 4).trans rfl; have hcz21_5 : w19.cell? ⟨gb45001, 5, none⟩ = some (.int .i64 a0_5) := (blk_cell BK45001.out 5).trans rfl; have hcz21_6 : w19.cell? ⟨gb45001, 6, none⟩ = some (.int .i64 a0_6) := (blk_cell BK45001.out 6).trans rfl; have hcz21_7 : w19.cell? ⟨gb45001, 7, none⟩ = some (.int .i64 a0_7) := (blk_cell BK45001.out 7).trans rfl; have hcz21_8 : w19.cell? ⟨gb45001, 8, none⟩ = some (.bool a0_8) := (blk_cell BK45001.out 8).trans rfl; have hfz21_0 := blk_frozen BK45001.out 0; have hfz21_1 := blk_frozen BK45001.out 1; have hfz21_2 := blk_frozen BK45001.out 2; have hfz21_3 := blk_frozen BK45001.out 3; have hfz21_4 := blk_frozen BK45001.out 4; have hfz21_5 := blk_frozen BK45001.out 5; have hfz21_6 := blk_frozen BK45001.out 6; have hfz21_7 := blk_frozen BK45001.out 7; have hfz21_8 := blk_frozen BK45001.out 8; have hcz22_0 : w19.cell? ⟨gb45002, 0, none⟩ = some (.int .i64 a1_0) := (blk_cell BK45002.out 0).trans rfl; have hcz22_1 : w19.cell? ⟨gb45002, 1, none⟩ = some (.int .i64 a1_1) := (blk_cell BK45002.out 1).trans rfl; have hcz22_2 : w19.cell? ⟨gb45002, 2, none⟩ = some (.int .i64 a1_2) := (blk_cell BK45002.out 2).trans rfl; have hcz22_3 : w19.cell? ⟨gb45002, 3, none⟩ = some (.slice A1_3 l1_3.length c1_3) := (blk_cell BK45002.out 3).trans rfl; have hcz22_4 : w19.cell? ⟨gb45002, 4, none⟩ = some (.int .i64 a1_4) := (blk_cell BK45002.out 4).trans rfl; have hcz22_5 : w19.cell? ⟨gb45002, 5, none⟩ = some (.int .i64 a1_5) := (blk_cell BK45002.out 5).trans rfl; have hcz22_6 : w19.cell? ⟨gb45002, 6, none⟩ = some (.int .i64 a1_6) := (blk_cell BK45002.out 6).trans rfl; have hcz22_7 : w19.cell? ⟨gb45002, 7, none⟩ = some (.int .i64 a1_7) := (blk_cell BK45002.out 7).trans rfl; have hcz22_8 : w19.cell? ⟨gb45002, 8, none⟩ = some (.bool a1_8) := (blk_cell BK45002.out 8).trans rfl; have hfz22_0 := blk_frozen BK45002.out 0; have hfz22_1 := blk_frozen BK45002.out 1; have hfz22_2 := blk_frozen BK45002.out 2; have hfz22_3 := blk_frozen BK45002.out 3; have hfz22_4 := blk_frozen BK45002.out 4; have hfz22_5 := blk_frozen BK45002.out 5; have hfz22_6 := blk_frozen BK45002.out 6; have hfz22_7 := blk_frozen BK45002.out 7; have hfz22_8 := blk_frozen BK45002.out 8) | ((with_reducible refine gate_callee (f := 24) rfl ?_); refine goesL_ (some 9) rfl rfl Try.func24 (by kernel_rfl) rfl #[.agg #[.int .i64 a0_0, .int .i64 a0_1, .int .i64 a0_2, .slice A0_3 l0_3.length c0_3], .agg #[.int .i64 a1_0, .int .i64 a1_1, .int .i64 a1_2, .slice A1_3 l1_3.length c1_3]] rfl (by (try simp only [List.map_toArray, List.map_cons, List.map_nil]); first | done | rfl | (simp only [List.length_drop, List.length_take]; rfl)) ?_; (with_reducible refine (laws_eqImage.calls k a0_0 a0_1 a0_2 _ _ l0_3 a1_0 a1_1 a1_2 _ _ l1_3 true _ ?side1 ?side2 ?side3 ?side4 A3.out rfl).mono ?_); (case side1 => repeat (first | exact (Kd.C_below HR0_3.out HB.out) | (with_reducible refine Kd.C_alloc ?_ _) | (with_reducible refine Kd.C_drewN ?_ _) | (with_reducible refine Kd.C_drew ?_))); (case side2 => exact HC0_3.out); (case side3 => repeat (first | exact (Kd.C_below HR1_3.out HB.out) | (with_reducible refine Kd.C_alloc ?_ _) | (with_reducible refine Kd.C_drewN ?_ _) | (with_reducible refine Kd.C_drew ?_))); (case side4 => exact HC1_3.out); rintro e w23 ⟨rfl, hb⟩; refine ⟨_, rfl, ?_⟩; have n0_ := Aside0.mk (blk_below (g := gb45001) (o := .cells #[.int .i64 a0_0, .int .i64 a0_1, .int .i64 a0_2, .slice A0_3 l0_3.length c0_3, .int .i64 a0_4, .int .i64 a0_5, .int .i64 a0_6, .int .i64 a0_7, .bool a0_8] 55 (0, 0)) (by (with_reducible repeat (first | refine blk_drewN ?_ _ | refine blk_drew ?_ | refine blk_alloc ?_ _)); exact BK45001.out) hb); have n1_ := Aside0.mk (blk_below (g := gb45002) (o := .cells #[.int .i64 a1_0, .int .i64 a1_1, .int .i64 a1_2, .slice A1_3 l1_3.length c1_3, .int .i64 a1_4, .int .i64 a1_5, .int .i64 a1_6, .int .i64 a1_7, .bool a1_8] 55 (0, 0)) (by (with_reducible repeat (first | refine blk_drewN ?_ _ | refine blk_drew ?_ | refine blk_alloc ?_ _)); exact BK45002.out) hb); have n2_ := Aside0.mk (below_step (by repeat (first | (with_reducible first | exact HB.out | apply below_alloc | apply pw_below_drewN | apply below_drew1 | refine below_set ?_ GE45001.out | refine below_set ?_ GE45002.out) | exact HB.out)) hb); clear BK45001; clear BK45002; clear HB; have BK45001 := n0_; have BK45002 := n1_; have HB := n2_; clear n0_ n1_ n2_; (try clear hb); (try clear hb2); (try clear hk); (try clear hi); have hcz24_0 : w23.cell? ⟨gb45001, 0, none⟩ = some (.int .i64 a0_0) := (blk_cell BK45001.out 0).trans rfl; have hcz24_1 : w23.cell? ⟨gb45001, 1, none⟩ = some (.int .i64 a0_1) := (blk_cell BK45001.out 1).trans rfl; have hcz24_2 : w23.cell? ⟨gb45001, 2, none⟩ = some (.int .i64 a0_2) := (blk_cell BK45001.out 2).trans rfl; have hcz24_3 : w23.cell? ⟨gb45001, 3, none⟩ = some (.slice A0_3 l0_3.length c0_3) := (blk_cell BK45001.out 3).trans rfl; have hcz24_4 : w23.cell? ⟨gb45001, 4, none⟩ = some (.int .i64 a0_4) := (blk_cell BK45001.out 4).trans rfl; have hcz24_5 : w23.cell? ⟨gb45001, 5, none⟩ = some (.int .i64 a0_5) := (blk_cell BK45001.out 5).trans rfl; have hcz24_6 : w23.cell? ⟨gb45001, 6, none⟩ = some (.int .i64 a0_6) := (blk_cell BK45001.out 6).trans rfl; have hcz24_7 : w23.cell? ⟨gb45001, 7, none⟩ = some (.int .i64 a0_7) := (blk_cell BK45001.out 7).trans rfl; have hcz24_8 : w23.cell? ⟨gb45001, 8, none⟩ = some (.bool a0_8) := (blk_cell BK45001.out 8).trans rfl; have hfz24_0 := blk_frozen BK45001.out 0; have hfz24_1 := blk_frozen BK45001.out 1; have hfz24_2 := blk_frozen BK45001.out 2; have hfz24_3 := blk_frozen BK45001.out 3; have hfz24_4 := blk_frozen BK45001.out 4; have hfz24_5 := blk_frozen BK45001.out 5; have hfz24_6 := blk_frozen BK45001.out 6; have hfz24_7 := blk_frozen BK45001.out 7; have hfz24_8 := blk_frozen BK45001.out 8; have hcz25_0 : w23.cell? ⟨gb45002, 0, none⟩ = some (.int .i64 a1_0) := (blk_cell BK45002.out 0).trans rfl; have hcz25_1 : w23.cell? ⟨gb45002, 1, none⟩ = some (.int .i64 a1_1) := (blk_cell BK45002.out 1).trans rfl; have hcz25_2 : w23.cell? ⟨gb45002, 2, none⟩ = some (.int .i64 a1_2) := (blk_cell BK45002.out 2).trans rfl; have hcz25_3 : w23.cell? ⟨gb45002, 3, none⟩ = some (.slice A1_3 l1_3.length c1_3) := (blk_cell BK45002.out 3).trans rfl; have hcz25_4 : w23.cell? ⟨gb45002, 4, none⟩ = some (.int .i64 a1_4) := (blk_cell BK45002.out 4).trans rfl; have hcz25_5 : w23.cell? ⟨gb45002, 5, none⟩ = some (.int .i64 a1_5) := (blk_cell BK45002.out 5).trans rfl; have hcz25_6 : w23.cell? ⟨gb45002, 6, none⟩ = some (.int .i64 a1_6) := (blk_cell BK45002.out 6).trans rfl; have hcz25_7 : w23.cell? ⟨gb45002, 7, none⟩ = some (.int .i64 a1_7) := (blk_cell BK45002.out 7).trans rfl; have hcz25_8 : w23.cell? ⟨gb45002, 8, none⟩ = some (.bool a1_8) := (blk_cell BK45002.out 8).trans rfl; have hfz25_0 := blk_frozen BK45002.out 0; have hfz25_1 := blk_frozen BK45002.out 1; have hfz25_2 := blk_frozen BK45002.out 2; have hfz25_3 := blk_frozen BK45002.out 3; have hfz25_4 := blk_frozen BK45002.out 4; have hfz25_5 := blk_frozen BK45002.out 5; have hfz25_6 := blk_frozen BK45002.out 6; have hfz25_7 := blk_frozen BK45002.out 7; have hfz25_8 := blk_frozen BK45002.out 8))
              go_ret
              exact ⟨by first | rfl | (simp [errW_none, errW_some] <;> rfl) | (simp [*, errW_none, errW_some] <;> rfl), by repeat (first | (with_reducible first | exact HB.out | apply below_alloc | apply pw_below_drewN | apply below_drew1 | refine below_set ?_ GE45001.out | refine below_set ?_ GE45002.out) | exact HB.out)⟩
          · rw [if_neg c8] at H
            have c8b0 : (a0_7 == a1_7) = false := beq_eq_false_iff_ne.mpr c8
            have c8b1 : (a0_7 != a1_7) = true := bne_iff_ne.mpr c8
            exact absurd ((Option.some.inj H).trans HRT.out) (by decide)
        · rw [if_neg c7] at H
          have c7b0 : (a0_6 == a1_6) = false := beq_eq_false_iff_ne.mpr c7
          have c7b1 : (a0_6 != a1_6) = true := bne_iff_ne.mpr c7
          exact absurd ((Option.some.inj H).trans HRT.out) (by decide)
      · rw [if_neg c6] at H
        have c6b0 : (a0_5 == a1_5) = false := beq_eq_false_iff_ne.mpr c6
        have c6b1 : (a0_5 != a1_5) = true := bne_iff_ne.mpr c6
        exact absurd ((Option.some.inj H).trans HRT.out) (by decide)
    · rw [if_neg c5] at H
      have c5b0 : (a0_4 == a1_4) = false := beq_eq_false_iff_ne.mpr c5
      have c5b1 : (a0_4 != a1_4) = true := bne_iff_ne.mpr c5
      exact absurd ((Option.some.inj H).trans HRT.out) (by decide)
  · replace c4 := Bool.eq_false_iff.mpr c4
    subst c4
    have H1 : (some false) = some r := by rw [if_neg (show ¬ (false = true) by decide)] at H; exact H
    clear H
    have H := H1
    clear H1
    exact absurd ((Option.some.inj H).trans HRT.out) (by decide)


def laws_markLayer.f (k : Nat) (a0_0 : Int) (a0_1 : Int) (a0_2 : Int) (l0_3 : List Int) (a0_4 : Int) (a0_5 : Int) (a0_6 : Int) (a0_7 : Int) (a0_8 : Bool) (a1 : Int) : Option (Int × List Int) := (laws_markImage.f k a0_0 a0_1 a0_2 l0_3 a1).bind fun bt46002 => (some (bt46002.1, bt46002.2))
theorem laws_markLayer.mono : ∀ a0 a1 a2 a3 a4 a5 a6 a7 a8 a9 k, LeO (laws_markLayer.f k a0 a1 a2 a3 a4 a5 a6 a7 a8 a9) (laws_markLayer.f (k + 1) a0 a1 a2 a3 a4 a5 a6 a7 a8 a9) := by
  intro a0 a1 a2 a3 a4 a5 a6 a7 a8 a9 k
  unfold laws_markLayer.f
  repeat' first
      | (with_reducible exact laws_markImage.mono _ _ _ _ _ _)
      | (with_reducible exact LeO.refl _)
      | (with_reducible exact LeO.none _)
      | (with_reducible refine LeO.ite ?_ ?_)
      | (with_reducible refine LeO.bind ?_ (fun _ => ?_))
      | exact laws_markImage.mono _ _ _ _ _ _
      | exact LeO.none _
      | refine LeO.ite ?_ ?_
      | refine LeO.bind ?_ (fun _ => ?_)
set_option maxHeartbeats 8000000 in
set_option maxRecDepth 100000 in
theorem laws_markLayer.calls (k : Nat) (a0_0 : Int) (a0_1 : Int) (a0_2 : Int) (P0_3_ : Nat → Prop) (u9000_ : Value) (l0_3 : List Int) (a0_4 : Int) (a0_5 : Int) (a0_6 : Int) (a0_7 : Int) (a0_8 : Bool) (a1 : Int) (r1 : Int) (r2 : List Int) (w0 w : World) (hB : Below w0.heap.size w0 w) (ho0_3 : Kd.R (Kd.int .i64) 3 w w0.heap.size P0_3_ u9000_ l0_3) (h : laws_markLayer.f k a0_0 a0_1 a0_2 l0_3 a0_4 a0_5 a0_6 a0_7 a0_8 a1 = some (r1, r2)) :
    Calls Try.prog 45 #[.agg #[.int .i64 a0_0, .int .i64 a0_1, .int .i64 a0_2, u9000_, .int .i64 a0_4, .int .i64 a0_5, .int .i64 a0_6, .int .i64 a0_7, .bool a0_8], .int .i64 a1] w fun e w' => e = .returned (.int .i64 r1) ∧ Kd.R (Kd.int .i64) 3 w' w0.heap.size (fun k_ => (P0_3_ k_ ∨ w.heap.size ≤ k_)) u9000_ r2 ∧ Below w0.heap.size w0 w' ∧ Kept w w' (fun k_ => P0_3_ k_) := by
  have hu55 := Try.underlying55
  have hu27 := Try.underlying27
  have HO0_3 := Aside0.mk (show Kd.R (Kd.int .i64) 3 w w0.heap.size (fun k_ => (P0_3_ k_ ∨ w.heap.size ≤ k_)) u9000_ l0_3 from Kd.R_mono ho0_3 (fun k_ hk => (.inl hk)))
  have HK := Aside0.mk (Kept.refl w (fun k_ => P0_3_ k_))
  have HW0 := Aside0.mk hB.size
  have HB := Aside0.mk hB
  clear hB
  have H : ((laws_markImage.f k a0_0 a0_1 a0_2 l0_3 a1).bind fun bt46002 => (some (bt46002.1, bt46002.2))) = some (r1, r2) := h
  clear h
  replace H := Option.bind_eq_some_iff.mp H
  obtain ⟨⟨t46002, t46003⟩, A30, H⟩ := H
  replace H : (some (t46002, t46003)) = some (r1, r2) := H
  have A3 := Aside0.mk A30
  clear A30
  simp only [Option.some.injEq, Prod.mk.injEq] at H
  obtain ⟨rfl, rfl⟩ := H
  obtain ⟨Ao4, co4, eo4⟩ := Kd.R_slice HO0_3.out
  subst eo4
  go_enter Try.func45, Try.ntmps45
  go_wp2_with (first | ((with_reducible refine gate_dst (N := 2) rfl ?_); refine box_event ?hg (N := 2) ?hd (cs := #[.int .i64 a0_0, .int .i64 a0_1, .int .i64 a0_2, .slice Ao4 l0_3.length co4, .int .i64 a0_4, .int .i64 a0_5, .int .i64 a0_6, .int .i64 a0_7, .bool a0_8]) (t := 55) ?hr ?_; (case hd => rfl); (case hg => rfl); (case hr => first | (go_simp; done) | (go_simp; rfl)); intro gb46001 hg w5 hbox hb; have n0_ := Aside0.mk (Kd.R_below (by (with_reducible repeat (first | apply Kd.R_alloc | apply Kd.R_drewN | apply Kd.R_drew)); exact HO0_3.out) hb); have n1_ := Aside0.mk (Kept.below (S := (fun k_ => P0_3_ k_)) (by repeat (first | (with_reducible first | exact HK.out | apply Kept.alloc | apply Kept.drewN | apply Kept.drew) | exact HK.out)) hb); have n2_ := Aside0.mk (below_step (by repeat (first | (with_reducible first | exact HB.out | apply below_alloc | apply pw_below_drewN | apply below_drew1) | exact HB.out)) hb); have n3_ := Aside0.mk (hbox); have n4_ := Aside0.mk ((by rw [hg]; exact (by first | exact HK.out.1 | exact (show Kept w _ (fun k_ => P0_3_ k_) from by repeat (first | (with_reducible first | exact HK.out | apply Kept.alloc | apply Kept.drewN | apply Kept.drew) | exact HK.out)).1) : w.heap.size ≤ gb46001)); have n5_ := Aside0.mk ((by rw [hg]; exact (below_size (by repeat (first | (with_reducible first | exact HB.out | apply below_alloc | apply pw_below_drewN | apply below_drew1) | exact HB.out))) : w0.heap.size ≤ gb46001)); clear HO0_3; clear HK; clear HB; have HO0_3 := n0_; have HK := n1_; have HB := n2_; have BK46001 := n3_; have GW46001 := n4_; have GE46001 := n5_; clear n0_ n1_ n2_ n3_ n4_ n5_; clear hb hbox hg; have hcz6_0 : w5.cell? ⟨gb46001, 0, none⟩ = some (.int .i64 a0_0) := (blk_cell BK46001.out 0).trans rfl; have hcz6_1 : w5.cell? ⟨gb46001, 1, none⟩ = some (.int .i64 a0_1) := (blk_cell BK46001.out 1).trans rfl; have hcz6_2 : w5.cell? ⟨gb46001, 2, none⟩ = some (.int .i64 a0_2) := (blk_cell BK46001.out 2).trans rfl; have hcz6_3 : w5.cell? ⟨gb46001, 3, none⟩ = some (.slice Ao4 l0_3.length co4) := (blk_cell BK46001.out 3).trans rfl; have hcz6_4 : w5.cell? ⟨gb46001, 4, none⟩ = some (.int .i64 a0_4) := (blk_cell BK46001.out 4).trans rfl; have hcz6_5 : w5.cell? ⟨gb46001, 5, none⟩ = some (.int .i64 a0_5) := (blk_cell BK46001.out 5).trans rfl; have hcz6_6 : w5.cell? ⟨gb46001, 6, none⟩ = some (.int .i64 a0_6) := (blk_cell BK46001.out 6).trans rfl; have hcz6_7 : w5.cell? ⟨gb46001, 7, none⟩ = some (.int .i64 a0_7) := (blk_cell BK46001.out 7).trans rfl; have hcz6_8 : w5.cell? ⟨gb46001, 8, none⟩ = some (.bool a0_8) := (blk_cell BK46001.out 8).trans rfl; have hfz6_0 := blk_frozen BK46001.out 0; have hfz6_1 := blk_frozen BK46001.out 1; have hfz6_2 := blk_frozen BK46001.out 2; have hfz6_3 := blk_frozen BK46001.out 3; have hfz6_4 := blk_frozen BK46001.out 4; have hfz6_5 := blk_frozen BK46001.out 5; have hfz6_6 := blk_frozen BK46001.out 6; have hfz6_7 := blk_frozen BK46001.out 7; have hfz6_8 := blk_frozen BK46001.out 8) | ((with_reducible refine gate_callee (f := 31) rfl ?_); refine goesL_ (some 8) rfl rfl Try.func31 (by kernel_rfl) rfl #[.agg #[.int .i64 a0_0, .int .i64 a0_1, .int .i64 a0_2, .slice Ao4 l0_3.length co4], .int .i64 a1] rfl (by (try simp only [List.map_toArray, List.map_cons, List.map_nil]); first | done | rfl | (simp only [List.length_drop, List.length_take]; rfl)) ?_; (with_reducible refine (laws_markImage.calls k a0_0 a0_1 a0_2 (fun k_ => some k_ = (.slice Ao4 l0_3.length co4 : Value).ownBlock) (.slice Ao4 l0_3.length co4) l0_3 a1 t46002 t46003 w0 _ ?side1 ?side2 A3.out).mono ?_); (case side1 => repeat (first | (with_reducible first | exact HB.out | apply below_alloc | apply pw_below_drewN | apply below_drew1 | refine below_set ?_ GE46001.out) | exact HB.out)); (case side2 => exact Kd.R_tight rfl HO0_3.out); rintro e w7 ⟨rfl, hy0, hb, hkp⟩; refine ⟨_, rfl, ?_⟩; have n0_ := Aside0.mk (Kd.R_reok rfl hy0 (fun k_ e_ => HO0_3.out.1 k_ e_)); have n1_ := Aside0.mk (blk_kept (by (with_reducible repeat (first | refine blk_drewN ?_ _ | refine blk_drew ?_ | refine blk_alloc ?_ _)); exact BK46001.out) hkp (fun hs_ => (fun e_ => (Kd.R_ne HO0_3.out BK46001.out (by decide)) e_) hs_)); have n2_ := Aside0.mk (Kept.then_ (S := (fun k_ => P0_3_ k_)) (by repeat (first | (with_reducible first | exact HK.out | apply Kept.alloc | apply Kept.drewN | apply Kept.drew | refine Kept.setCell ?_ (.inr GW46001.out) _) | exact HK.out)) hkp (fun k_ hs_ => (fun e_ => (HO0_3.out.1 k_ e_.symm)) hs_)); have n3_ := Aside0.mk (hb); clear HO0_3; clear BK46001; clear HK; clear HB; have HO0_3 := n0_; have BK46001 := n1_; have HK := n2_; have HB := n3_; clear n0_ n1_ n2_ n3_; (try clear hb); (try clear hkp); (try clear hy0)))
  go_ret
  exact ⟨by first | rfl | (simp [errW_none, errW_some] <;> rfl) | (simp [*, errW_none, errW_some] <;> rfl), by (with_reducible repeat (first | apply Kd.R_alloc | apply Kd.R_drewN | apply Kd.R_drew)); exact HO0_3.out, by repeat (first | (with_reducible first | exact HB.out | apply below_alloc | apply pw_below_drewN | apply below_drew1 | refine below_set ?_ GE46001.out) | exact HB.out), by repeat (first | (with_reducible first | exact HK.out | apply Kept.alloc | apply Kept.drewN | apply Kept.drew | refine Kept.setCell ?_ (.inr GW46001.out) _) | exact HK.out)⟩


def laws_heldIntS.l0 : Nat → List Int → Int → Int → Option (Int)
  | 0, _, _, _ => none
  | k + 1, x0, x1, x5 => if x5 < (x0.length : Int) then (if 0 ≤ x5 then (if (rd x0 x5) = x1 then (laws_heldIntS.l0 k x0 (wrap64 (x1 + 1)) (wrap64 (x5 + 1))) else (some (-1))) else (none)) else (some x1)
def laws_heldIntS.f (k : Nat) (l0 : List Int) (a1 : Int) : Option (Int) := laws_heldIntS.l0 k l0 a1 0
theorem laws_heldIntS.mono_l : ∀ k, (∀ y0 y1 y2, LeO (laws_heldIntS.l0 k y0 y1 y2) (laws_heldIntS.l0 (k + 1) y0 y1 y2))
  | 0 => fun _ _ _ r h => by simp [laws_heldIntS.l0] at h
  | k + 1 => by
    have ih0 := laws_heldIntS.mono_l k
    · intro y0 y1 y2
      unfold laws_heldIntS.l0
      repeat' first
      | (with_reducible exact ih0 _ _ _)
      | (with_reducible exact LeO.refl _)
      | (with_reducible exact LeO.none _)
      | (with_reducible refine LeO.ite ?_ ?_)
      | (with_reducible refine LeO.bind ?_ (fun _ => ?_))
      | exact ih0 _ _ _
      | exact LeO.none _
      | refine LeO.ite ?_ ?_
      | refine LeO.bind ?_ (fun _ => ?_)
theorem laws_heldIntS.mono : ∀ a0 a1 k, LeO (laws_heldIntS.f k a0 a1) (laws_heldIntS.f (k + 1) a0 a1) := by
  intro a0 a1 k
  have ih0 := laws_heldIntS.mono_l k
  unfold laws_heldIntS.f
  repeat' first
      | (with_reducible exact ih0 _ _ _)
      | (with_reducible exact LeO.refl _)
      | (with_reducible exact LeO.none _)
      | (with_reducible refine LeO.ite ?_ ?_)
      | (with_reducible refine LeO.bind ?_ (fun _ => ?_))
      | exact ih0 _ _ _
      | exact LeO.none _
      | refine LeO.ite ?_ ?_
      | refine LeO.bind ?_ (fun _ => ?_)
set_option maxHeartbeats 8000000 in
set_option maxRecDepth 100000 in
theorem laws_heldIntS.calls (k : Nat) (A0 : Option Addr) (c0 : Nat) (l0 : List Int) (a1 : Int) (r : Int) (w : World) (hr0 : Kd.C (Kd.int .i64) w A0 l0.length l0) (hc0 : l0.length ≤ c0) (h : laws_heldIntS.f k l0 a1 = some r) :
    Calls Try.prog 47 #[.slice A0 l0.length c0, .int .i64 a1] w fun e w' => e = .returned (.int .i64 r) ∧ Drawn0 w w' := by
  have HR0 := Aside0.mk hr0
  have HC0 := Aside0.mk hc0
  clear hr0 hc0
  have H : (laws_heldIntS.l0 k l0 a1 0) = some r := h
  clear h
  have H' := Aside0.mk H
  clear H
  go_enter Try.func47, Try.ntmps47
  go_wp2
  go_loopg [1, 5] k (fun kq v1 v5 w' => ∃ (x1_1 : Int) (x5_1 : Int), v1 = .int .i64 x1_1 ∧ v5 = .int .i64 x5_1 ∧ Aside0 (laws_heldIntS.l0 kq l0 x1_1 x5_1 = some r) ∧ Aside0 (kq ≤ k) ∧ Drawn0 w w')
  case atStart => exact ⟨(a1), (0), (by first | rfl | (simp; done) | (simp [*]; done)), (by first | rfl | (simp; done) | (simp [*]; done)), H', ⟨Nat.le_refl _⟩, by repeat (first | exact Drawn0.refl _ | apply Drawn0.step)⟩
  case round =>
    clear H'
    try clear p2
    obtain ⟨x1_1, x5_1, rfl, rfl, HA, HK1, ⟨m1, rfl⟩⟩ := hrel
    cases gk with
    | zero => exact absurd HA.out (by simp [laws_heldIntS.l0])
    | succ k1 =>
      have H := HA.out
      clear HA
      simp only [laws_heldIntS.l0] at H
      by_cases c3 : x5_1 < (l0.length : Int)
      · rw [if_pos c3] at H
        have c3b0 : decide (x5_1 < (l0.length : Int)) = true := decide_eq_true c3
        clear c3
        by_cases c4 : 0 ≤ x5_1
        · rw [if_pos c4] at H
          have c4b0 : decide (0 ≤ x5_1) = true := decide_eq_true c4
          clear c4
          by_cases c5 : (rd l0 x5_1) = x1_1
          · rw [if_pos c5] at H
            have c5b0 : ((rd l0 x5_1) == x1_1) = true := beq_iff_eq.mpr c5
            have c5b1 : ((rd l0 x5_1) != x1_1) = false := bne_eq_false_iff_eq.mpr c5
            clear c5
            have H' := Aside0.mk H
            clear H
            have p48001 : 0 ≤ (x5_1 : Int) := of_decide_eq_true (by first | (with_reducible assumption) | assumption)
            have q48001 : x5_1 < (l0.length : Int) := of_decide_eq_true (by first | (with_reducible assumption) | assumption)
            obtain ⟨ad48001, e48001, hx48001_0⟩ := Kd.at_int HR0.out x5_1 p48001 q48001
            cases e48001
            replace p48001 := eq_true p48001
            replace q48001 := eq_true q48001
            go_wp2
            go_roundg k1
            case measure => have := HK1.out; omega
            case rel => exact ⟨(wrap64 (x1_1 + 1)), (wrap64 (x5_1 + 1)), (by first | rfl | (simp; done) | (simp [*]; done)), (by first | rfl | (simp; done) | (simp [*]; done)), H', ⟨by have := HK1.out; omega⟩, by repeat (first | exact Drawn0.refl _ | apply Drawn0.step)⟩
          · rw [if_neg c5] at H
            have c5b0 : ((rd l0 x5_1) == x1_1) = false := beq_eq_false_iff_ne.mpr c5
            have c5b1 : ((rd l0 x5_1) != x1_1) = true := bne_iff_ne.mpr c5
            obtain rfl := Option.some.inj H
            have p48001 : 0 ≤ (x5_1 : Int) := of_decide_eq_true (by first | (with_reducible assumption) | assumption)
            have q48001 : x5_1 < (l0.length : Int) := of_decide_eq_true (by first | (with_reducible assumption) | assumption)
            obtain ⟨ad48001, e48001, hx48001_0⟩ := Kd.at_int HR0.out x5_1 p48001 q48001
            cases e48001
            replace p48001 := eq_true p48001
            replace q48001 := eq_true q48001
            go_wp2
            go_ret
            exact ⟨by first | rfl | (simp; done) | (simp [*]; done), by repeat (first | exact Drawn0.refl _ | apply Drawn0.step)⟩
        · rw [if_neg c4] at H
          exact absurd H (by simp)
      · rw [if_neg c3] at H
        have c3b0 : decide (x5_1 < (l0.length : Int)) = false := decide_eq_false c3
        clear c3
        obtain rfl := Option.some.inj H
        go_wp2
        go_ret
        exact ⟨by first | rfl | (simp; done) | (simp [*]; done), by repeat (first | exact Drawn0.refl _ | apply Drawn0.step)⟩


def laws_heldImage.f (k : Nat) (a0_0 : Int) (a0_1 : Int) (a0_2 : Int) (l0_3 : List Int) (a1 : Int) : Option (Int) := (laws_heldIntS.f k l0_3 a1).bind fun t60002 => (if t60002 < 0 then (some (-1)) else (some t60002))
theorem laws_heldImage.mono : ∀ a0 a1 a2 a3 a4 k, LeO (laws_heldImage.f k a0 a1 a2 a3 a4) (laws_heldImage.f (k + 1) a0 a1 a2 a3 a4) := by
  intro a0 a1 a2 a3 a4 k
  unfold laws_heldImage.f
  repeat' first
      | (with_reducible exact laws_heldIntS.mono _ _ _)
      | (with_reducible exact LeO.refl _)
      | (with_reducible exact LeO.none _)
      | (with_reducible refine LeO.ite ?_ ?_)
      | (with_reducible refine LeO.bind ?_ (fun _ => ?_))
      | exact laws_heldIntS.mono _ _ _
      | exact LeO.none _
      | refine LeO.ite ?_ ?_
      | refine LeO.bind ?_ (fun _ => ?_)
set_option maxHeartbeats 8000000 in
set_option maxRecDepth 100000 in
theorem laws_heldImage.calls (k : Nat) (a0_0 : Int) (a0_1 : Int) (a0_2 : Int) (A0_3 : Option Addr) (c0_3 : Nat) (l0_3 : List Int) (a1 : Int) (r : Int) (w : World) (hr0_3 : Kd.C (Kd.int .i64) w A0_3 l0_3.length l0_3) (hc0_3 : l0_3.length ≤ c0_3) (h : laws_heldImage.f k a0_0 a0_1 a0_2 l0_3 a1 = some r) :
    Calls Try.prog 59 #[.agg #[.int .i64 a0_0, .int .i64 a0_1, .int .i64 a0_2, .slice A0_3 l0_3.length c0_3], .int .i64 a1] w fun e w' => e = .returned (.int .i64 r) ∧ Below w.heap.size w w' := by
  have hu27 := Try.underlying27
  have HR0_3 := Aside0.mk hr0_3
  have HC0_3 := Aside0.mk hc0_3
  clear hr0_3 hc0_3
  have HB := Aside0.mk (Below.refl w.heap.size w)
  have H : ((laws_heldIntS.f k l0_3 a1).bind fun t60002 => (if t60002 < 0 then (some (-1)) else (some t60002))) = some r := h
  clear h
  replace H := Option.bind_eq_some_iff.mp H
  obtain ⟨t60002, A30, H⟩ := H
  replace H : (if t60002 < 0 then (some (-1)) else (some t60002)) = some r := H
  have A3 := Aside0.mk A30
  clear A30
  by_cases c4 : t60002 < 0
  · rw [if_pos c4] at H
    have c4b0 : decide (t60002 < 0) = true := decide_eq_true c4
    clear c4
    obtain rfl := Option.some.inj H
    go_enter Try.func59, Try.ntmps59
    go_wp2_with (first | ((with_reducible refine gate_dst (N := 2) rfl ?_); refine box_event ?hg (N := 2) ?hd (cs := #[.int .i64 a0_0, .int .i64 a0_1, .int .i64 a0_2, .slice A0_3 l0_3.length c0_3]) (t := 27) ?hr ?_; (case hd => rfl); (case hg => rfl); (case hr => first | (go_simp; done) | (go_simp; rfl)); intro gb60001 hg w5 hbox hb; have n0_ := Aside0.mk (below_step (by repeat (first | (with_reducible first | exact HB.out | apply below_alloc | apply pw_below_drewN | apply below_drew1) | exact HB.out)) hb); have n1_ := Aside0.mk (hbox); have n2_ := Aside0.mk ((by rw [hg]; exact (below_size (by repeat (first | (with_reducible first | exact HB.out | apply below_alloc | apply pw_below_drewN | apply below_drew1) | exact HB.out))) : w.heap.size ≤ gb60001)); have n3_ := Aside0.mk ((by rw [hg]; exact (below_size (by repeat (first | (with_reducible first | exact HB.out | apply below_alloc | apply pw_below_drewN | apply below_drew1) | exact HB.out))) : w.heap.size ≤ gb60001)); clear HB; have HB := n0_; have BK60001 := n1_; have GW60001 := n2_; have GE60001 := n3_; clear n0_ n1_ n2_ n3_; clear hb hbox hg; have hcz6_0 : w5.cell? ⟨gb60001, 0, none⟩ = some (.int .i64 a0_0) := (blk_cell BK60001.out 0).trans rfl; have hcz6_1 : w5.cell? ⟨gb60001, 1, none⟩ = some (.int .i64 a0_1) := (blk_cell BK60001.out 1).trans rfl; have hcz6_2 : w5.cell? ⟨gb60001, 2, none⟩ = some (.int .i64 a0_2) := (blk_cell BK60001.out 2).trans rfl; have hcz6_3 : w5.cell? ⟨gb60001, 3, none⟩ = some (.slice A0_3 l0_3.length c0_3) := (blk_cell BK60001.out 3).trans rfl; have hfz6_0 := blk_frozen BK60001.out 0; have hfz6_1 := blk_frozen BK60001.out 1; have hfz6_2 := blk_frozen BK60001.out 2; have hfz6_3 := blk_frozen BK60001.out 3) | ((with_reducible refine gate_callee (f := 47) rfl ?_); refine goesL_ (some 8) rfl rfl Try.func47 (by kernel_rfl) rfl #[.slice A0_3 l0_3.length c0_3, .int .i64 a1] rfl (by (try simp only [List.map_toArray, List.map_cons, List.map_nil]); first | done | rfl | (simp only [List.length_drop, List.length_take]; rfl)) ?_; (with_reducible refine (laws_heldIntS.calls k _ _ l0_3 a1 t60002 _ ?side1 ?side2 A3.out).mono ?_); (case side1 => repeat (first | exact (Kd.C_below HR0_3.out HB.out) | (with_reducible refine Kd.C_alloc ?_ _) | (with_reducible refine Kd.C_drewN ?_ _) | (with_reducible refine Kd.C_drew ?_))); (case side2 => exact HC0_3.out); rintro e w' ⟨rfl, ⟨nd, rfl⟩⟩; refine ⟨_, rfl, ?_⟩))
    go_ret
    exact ⟨by first | rfl | (simp [errW_none, errW_some] <;> rfl) | (simp [*, errW_none, errW_some] <;> rfl), by repeat (first | (with_reducible first | exact HB.out | apply below_alloc | apply pw_below_drewN | apply below_drew1 | refine below_set ?_ GE60001.out) | exact HB.out)⟩
  · rw [if_neg c4] at H
    have c4b0 : decide (t60002 < 0) = false := decide_eq_false c4
    clear c4
    obtain rfl := Option.some.inj H
    go_enter Try.func59, Try.ntmps59
    go_wp2_with (first | ((with_reducible refine gate_dst (N := 2) rfl ?_); refine box_event ?hg (N := 2) ?hd (cs := #[.int .i64 a0_0, .int .i64 a0_1, .int .i64 a0_2, .slice A0_3 l0_3.length c0_3]) (t := 27) ?hr ?_; (case hd => rfl); (case hg => rfl); (case hr => first | (go_simp; done) | (go_simp; rfl)); intro gb60001 hg w7 hbox hb; have n0_ := Aside0.mk (below_step (by repeat (first | (with_reducible first | exact HB.out | apply below_alloc | apply pw_below_drewN | apply below_drew1) | exact HB.out)) hb); have n1_ := Aside0.mk (hbox); have n2_ := Aside0.mk ((by rw [hg]; exact (below_size (by repeat (first | (with_reducible first | exact HB.out | apply below_alloc | apply pw_below_drewN | apply below_drew1) | exact HB.out))) : w.heap.size ≤ gb60001)); have n3_ := Aside0.mk ((by rw [hg]; exact (below_size (by repeat (first | (with_reducible first | exact HB.out | apply below_alloc | apply pw_below_drewN | apply below_drew1) | exact HB.out))) : w.heap.size ≤ gb60001)); clear HB; have HB := n0_; have BK60001 := n1_; have GW60001 := n2_; have GE60001 := n3_; clear n0_ n1_ n2_ n3_; clear hb hbox hg; have hcz8_0 : w7.cell? ⟨gb60001, 0, none⟩ = some (.int .i64 a0_0) := (blk_cell BK60001.out 0).trans rfl; have hcz8_1 : w7.cell? ⟨gb60001, 1, none⟩ = some (.int .i64 a0_1) := (blk_cell BK60001.out 1).trans rfl; have hcz8_2 : w7.cell? ⟨gb60001, 2, none⟩ = some (.int .i64 a0_2) := (blk_cell BK60001.out 2).trans rfl; have hcz8_3 : w7.cell? ⟨gb60001, 3, none⟩ = some (.slice A0_3 l0_3.length c0_3) := (blk_cell BK60001.out 3).trans rfl; have hfz8_0 := blk_frozen BK60001.out 0; have hfz8_1 := blk_frozen BK60001.out 1; have hfz8_2 := blk_frozen BK60001.out 2; have hfz8_3 := blk_frozen BK60001.out 3) | ((with_reducible refine gate_callee (f := 47) rfl ?_); refine goesL_ (some 8) rfl rfl Try.func47 (by kernel_rfl) rfl #[.slice A0_3 l0_3.length c0_3, .int .i64 a1] rfl (by (try simp only [List.map_toArray, List.map_cons, List.map_nil]); first | done | rfl | (simp only [List.length_drop, List.length_take]; rfl)) ?_; (with_reducible refine (laws_heldIntS.calls k _ _ l0_3 a1 t60002 _ ?side1 ?side2 A3.out).mono ?_); (case side1 => repeat (first | exact (Kd.C_below HR0_3.out HB.out) | (with_reducible refine Kd.C_alloc ?_ _) | (with_reducible refine Kd.C_drewN ?_ _) | (with_reducible refine Kd.C_drew ?_))); (case side2 => exact HC0_3.out); rintro e w' ⟨rfl, ⟨nd, rfl⟩⟩; refine ⟨_, rfl, ?_⟩))
    go_ret
    exact ⟨by first | rfl | (simp [errW_none, errW_some] <;> rfl) | (simp [*, errW_none, errW_some] <;> rfl), by repeat (first | (with_reducible first | exact HB.out | apply below_alloc | apply pw_below_drewN | apply below_drew1 | refine below_set ?_ GE60001.out) | exact HB.out)⟩

end Go.Proofs.Ytnofkbbcbpjhfaa.Q
