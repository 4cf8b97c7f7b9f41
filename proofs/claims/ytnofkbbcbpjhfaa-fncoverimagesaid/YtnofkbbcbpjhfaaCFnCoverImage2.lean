/- A part of the proof that the statement FnCoverImageSaid holds, under no condition of its own: Opaque layers are pasted: the law FnCoverImage over lists of numbers alone. -/
import Derived.Test.YtnofkbbcbpjhfaaCFnCoverImage1
/- impl.coverImage's function value: a pixel that is covered by a layer's. -/
namespace Go.Proofs.Ytnofkbbcbpjhfaa.Q
open Go.RowKit Go.Proofs.YtnofkbbcbpjhfaaW.PrintWords Go.Proofs.YtnofkbbcbpjhfaaW.PrintLast Go.Proofs.YtnofkbbcbpjhfaaW.PrintMore
attribute [local go_sem] max2_int min2_int max_two min_two max_three min_three max_four min_four
set_option linter.unusedVariables false
set_option linter.unusedSimpArgs false
open Go.Proofs.Ytnofkbbcbpjhfaa.Pure

def blV (mode alpha n u : Int) : Int := (impl_blended.f mode n u alpha).getD 0
theorem blV_is (mode alpha n u : Int) : impl_blended.f mode n u alpha = some (blV mode alpha n u) := by
  have h : ∃ v, impl_blended.f mode n u alpha = some v := by
    unfold impl_blended.f impl_part255.f
    simp only [Option.bind_some]
    repeat' split
    all_goals exact ⟨_, rfl⟩
  obtain ⟨v, hv⟩ := h
  unfold blV
  rw [hv]; rfl
def inBoxZ (X Y lw lh : Int) (x y : Nat) : Bool := decide (X ≤ (x : Int) ∧ (x : Int) < X + lw ∧ Y ≤ (y : Int) ∧ (y : Int) < Y + lh)
theorem impl_Box_has_int (X Y lw lh : Int) (x y : Nat) (h1 : -1000 ≤ X ∧ X ≤ 1000) (h2 : -1000 ≤ Y ∧ Y ≤ 1000) (h3 : 0 ≤ lw ∧ lw ≤ 1000) (h4 : 0 ≤ lh ∧ lh ≤ 1000) : impl_Box_has.f X Y lw lh (x : Int) (y : Int) = some (inBoxZ X Y lw lh x y) := by
  unfold impl_Box_has.f inBoxZ
  rw [w64 (x := X + lw) (by omega) (by omega), w64 (x := Y + lh) (by omega) (by omega)]
  by_cases c1 : (x : Int) ≥ X
  · rw [if_pos c1]
    by_cases c2 : (x : Int) < X + lw
    · rw [if_pos c2]
      by_cases c3 : (y : Int) ≥ Y
      · rw [if_pos c3]; congr 1; rw [decide_eq_decide]; omega
      · rw [if_neg c3, decide_eq_false (by omega)]
    · rw [if_neg c2, decide_eq_false (by omega)]
  · rw [if_neg c1, decide_eq_false (by omega)]
def coverPx (a p : Int) (d : List Int) (lw : Int) (lh : Int) (ld : List Int) (X Y mode alpha : Int) (x y : Nat) : List Int :=
  if inBoxZ X Y lw lh x y = true then List.zipWith (blV mode alpha) (pxAt a p d x y) (pxAt lw p ld ((x : Int) - X).toNat ((y : Int) - Y).toNat) else pxAt a p d x y
set_option maxHeartbeats 4000000 in
set_option maxRecDepth 100000 in
theorem cover1_out (a b p : Int) (A : Option Addr) (c : Nat) (d : List Int) (hv : validI a b p d = true) (hc : d.length ≤ c) (lw lh X Y mode alpha : Int) (hid : Bool) (AL : Option Addr) (cl : Nat) (ld : List Int) (hvl : validI lw lh p ld = true) (hcl : ld.length ≤ cl) (hX : -16 ≤ X ∧ X ≤ 16) (hY : -16 ≤ Y ∧ Y ≤ 16) (x y : Nat) (hx : (x : Int) < a) (hy : (y : Int) < b) (B : Nat) (B3 : Nat) (w : World) (h1 : w.heap[B]? = some (.cells #[.int .i64 a, .int .i64 b, .int .i64 p, .slice A d.length c] 27 (0, 0))) (h3 : w.heap[B3]? = some (.cells #[.int .i64 lw, .int .i64 lh, .int .i64 p, .slice AL ld.length cl, .int .i64 X, .int .i64 Y, .int .i64 mode, .int .i64 alpha, .bool hid] 55 (0, 0))) (hr : Kd.C (Kd.int .i64) w A d.length d) (hrl : Kd.C (Kd.int .i64) w AL ld.length ld) (hin : inBoxZ X Y lw lh x y = false) :
    Calls Try.prog 142 (#[.int .i64 (x : Int), .int .i64 (y : Int)] ++ #[.pointer (some ⟨B, 0, none⟩), .pointer (some ⟨B3, 0, none⟩)]) w fun e w' => ∃ (A' : Option Addr) (c' : Nat), e = .returned (.slice A' (pxAt a p d x y).length c') ∧ Kd.C (Kd.int .i64) w' A' (pxAt a p d x y).length (pxAt a p d x y) ∧ (pxAt a p d x y).length ≤ c' ∧ Below w.heap.size w w' := by
  have hsl := ((validI_iff lw lh p ld).1 hvl).1
  have HH := Aside0.mk (impl_Box_has_int X Y lw lh x y (by omega) (by omega) (by omega) (by omega))
  have HLB := Aside0.mk (show impl_Layer_box.f lw lh p ld X Y mode alpha hid = some (X, Y, lw, lh) from rfl)
  rw [hin] at HH
  obtain ⟨A', c', hc', HA⟩ := at_px (x := x) (y := y) A c hv hc hx hy
  have HRL := Aside0.mk hrl
  have HCL := Aside0.mk hcl
  have H3 := Aside0.mk h3
  have k0 := (blk_cell h1 0).trans rfl; have k1 := (blk_cell h1 1).trans rfl; have k2 := (blk_cell h1 2).trans rfl; have k3 := (blk_cell h1 3).trans rfl
  generalize pxAt a p d x y = px at *
  have HA' := Aside0.mk (HA w hr)
  clear HA hr h1 hv hc hvl hcl hin hsl hX hY
  simp only [List.append_toArray, List.cons_append, List.nil_append]
  go_enter Try.func142, Try.ntmps142
  go_wp2_with (first
    | (go_at_call 109; (with_reducible refine (HA'.out.2).mono ?_); rintro e w2 ⟨rfl, hb⟩; have HB2 := Aside0.mk hb; have h32 := Aside0.mk (blk_below H3.out hb); have q0 : w2.cell? ⟨B3, 0, none⟩ = some (.int .i64 lw) := (blk_cell h32.out 0).trans rfl; have q1 : w2.cell? ⟨B3, 1, none⟩ = some (.int .i64 lh) := (blk_cell h32.out 1).trans rfl; have q2 : w2.cell? ⟨B3, 2, none⟩ = some (.int .i64 p) := (blk_cell h32.out 2).trans rfl; have q3 : w2.cell? ⟨B3, 3, none⟩ = some (.slice AL ld.length cl) := (blk_cell h32.out 3).trans rfl; have q4 : w2.cell? ⟨B3, 4, none⟩ = some (.int .i64 X) := (blk_cell h32.out 4).trans rfl; have q5 : w2.cell? ⟨B3, 5, none⟩ = some (.int .i64 Y) := (blk_cell h32.out 5).trans rfl; have q6 : w2.cell? ⟨B3, 6, none⟩ = some (.int .i64 mode) := (blk_cell h32.out 6).trans rfl; have q7 : w2.cell? ⟨B3, 7, none⟩ = some (.int .i64 alpha) := (blk_cell h32.out 7).trans rfl; have q8 : w2.cell? ⟨B3, 8, none⟩ = some (.bool hid) := (blk_cell h32.out 8).trans rfl; clear hb)
    | (go_at_call 104; (with_reducible refine (impl_Layer_box.calls lw lh p AL cl ld X Y mode alpha hid _ _ _ _ w2 (Kd.C_below HRL.out HB2.out) HCL.out HLB.out).mono ?_); rintro e w3 ⟨rfl, hb⟩; have HB3 := Aside0.mk (below_then HB2.out HB2.out.size hb); clear hb)
    | (go_at_call 97; (with_reducible refine (impl_Box_has.calls X Y lw lh (x : Int) (y : Int) _ _ HH.out).mono ?_); rintro e w4 ⟨rfl, hb⟩; have HB4 := Aside0.mk (below_then HB3.out HB3.out.size hb); clear hb))
  go_ret
  exact ⟨A', c', rfl, Kd.C_below HA'.out.1 HB4.out, hc', HB4.out⟩
set_option maxHeartbeats 4000000 in
set_option maxRecDepth 100000 in
theorem cover1_in (a b p : Int) (A : Option Addr) (c : Nat) (d : List Int) (hv : validI a b p d = true) (hc : d.length ≤ c) (lw lh X Y mode alpha : Int) (hid : Bool) (AL : Option Addr) (cl : Nat) (ld : List Int) (hvl : validI lw lh p ld = true) (hcl : ld.length ≤ cl) (hX : -16 ≤ X ∧ X ≤ 16) (hY : -16 ≤ Y ∧ Y ≤ 16) (x y : Nat) (hx : (x : Int) < a) (hy : (y : Int) < b) (B : Nat) (B3 : Nat) (w : World) (h1 : w.heap[B]? = some (.cells #[.int .i64 a, .int .i64 b, .int .i64 p, .slice A d.length c] 27 (0, 0))) (h3 : w.heap[B3]? = some (.cells #[.int .i64 lw, .int .i64 lh, .int .i64 p, .slice AL ld.length cl, .int .i64 X, .int .i64 Y, .int .i64 mode, .int .i64 alpha, .bool hid] 55 (0, 0))) (hr : Kd.C (Kd.int .i64) w A d.length d) (hrl : Kd.C (Kd.int .i64) w AL ld.length ld) (hin : inBoxZ X Y lw lh x y = true) :
    Calls Try.prog 142 (#[.int .i64 (x : Int), .int .i64 (y : Int)] ++ #[.pointer (some ⟨B, 0, none⟩), .pointer (some ⟨B3, 0, none⟩)]) w fun e w' => ∃ v : Value, e = .returned v ∧ Kd.R (Kd.int .i64) 3 w' w.heap.size (fun _ => True) v (List.zipWith (blV mode alpha) (pxAt a p d x y) (pxAt lw p ld ((x : Int) - X).toNat ((y : Int) - Y).toNat)) ∧ Below w.heap.size w w' := by
  have hsl := ((validI_iff lw lh p ld).1 hvl).1
  have hs := ((validI_iff a b p d).1 hv).1
  have HH := Aside0.mk (impl_Box_has_int X Y lw lh x y (by omega) (by omega) (by omega) (by omega))
  have HLB := Aside0.mk (show impl_Layer_box.f lw lh p ld X Y mode alpha hid = some (X, Y, lw, lh) from rfl)
  have hin' : X ≤ (x : Int) ∧ (x : Int) < X + lw ∧ Y ≤ (y : Int) ∧ (y : Int) < Y + lh := by unfold inBoxZ at hin; exact of_decide_eq_true hin
  rw [hin] at HH
  obtain ⟨A', c', hc', HA⟩ := at_px (x := x) (y := y) A c hv hc hx hy
  obtain ⟨i', hi'⟩ := Int.eq_ofNat_of_zero_le (show 0 ≤ (x : Int) - X by omega)
  obtain ⟨j', hj'⟩ := Int.eq_ofNat_of_zero_le (show 0 ≤ (y : Int) - Y by omega)
  rw [hi', hj', Int.toNat_natCast, Int.toNat_natCast]
  obtain ⟨A2, c2, hc2, HA2⟩ := at_px (x := i') (y := j') AL cl hvl hcl (by omega) (by omega)
  have hwi : wrap64 ((x : Int) - X) = (i' : Int) := by rw [w64 (by omega) (by omega)]; exact hi'
  have hwj : wrap64 ((y : Int) - Y) = (j' : Int) := by rw [w64 (by omega) (by omega)]; exact hj'
  rw [← hwi, ← hwj] at HA2
  have hLp := pxAt_len hv hx hy
  have hUp := pxAt_len hvl (x := i') (y := j') (by omega) (by omega)
  have HRL := Aside0.mk hrl
  have HCL := Aside0.mk hcl
  have H3 := Aside0.mk h3
  have HC1 := Aside0.mk (HA w hr).1
  have HC2 := Aside0.mk (HA2 w hrl).1
  have k0 := (blk_cell h1 0).trans rfl; have k1 := (blk_cell h1 1).trans rfl; have k2 := (blk_cell h1 2).trans rfl; have k3 := (blk_cell h1 3).trans rfl
  generalize pxAt a p d x y = L at *
  generalize pxAt lw p ld i' j' = U at *
  have HA' := Aside0.mk (HA w hr)
  replace HA2 := Aside0.mk HA2
  have hLU : U.length = L.length := by omega
  have HLU := Aside0.mk hLU
  have HL4 := Aside0.mk (show L.length ≤ 4 by omega)
  have HXY := Aside0.mk (And.intro hX (And.intro hY hs))
  clear HA hr h1 hv hc hvl hcl hin hsl hs hi' hj' hwi hwj hLp hUp h3 hrl hLU
  have hui := Try.underlying22
  simp only [List.append_toArray, List.cons_append, List.nil_append]
  go_enter Try.func142, Try.ntmps142
  go_wp2_with (first
    | (go_at_call 109; (with_reducible refine (HA'.out.2).mono ?_); rintro e w2 ⟨rfl, hb⟩; have HB2 := Aside0.mk hb; have h32 := Aside0.mk (blk_below H3.out hb); have q0 : w2.cell? ⟨B3, 0, none⟩ = some (.int .i64 lw) := (blk_cell h32.out 0).trans rfl; have q1 : w2.cell? ⟨B3, 1, none⟩ = some (.int .i64 lh) := (blk_cell h32.out 1).trans rfl; have q2 : w2.cell? ⟨B3, 2, none⟩ = some (.int .i64 p) := (blk_cell h32.out 2).trans rfl; have q3 : w2.cell? ⟨B3, 3, none⟩ = some (.slice AL ld.length cl) := (blk_cell h32.out 3).trans rfl; have q4 : w2.cell? ⟨B3, 4, none⟩ = some (.int .i64 X) := (blk_cell h32.out 4).trans rfl; have q5 : w2.cell? ⟨B3, 5, none⟩ = some (.int .i64 Y) := (blk_cell h32.out 5).trans rfl; have q6 : w2.cell? ⟨B3, 6, none⟩ = some (.int .i64 mode) := (blk_cell h32.out 6).trans rfl; have q7 : w2.cell? ⟨B3, 7, none⟩ = some (.int .i64 alpha) := (blk_cell h32.out 7).trans rfl; have q8 : w2.cell? ⟨B3, 8, none⟩ = some (.bool hid) := (blk_cell h32.out 8).trans rfl; clear hb)
    | (go_at_call 104; (with_reducible refine (impl_Layer_box.calls lw lh p AL cl ld X Y mode alpha hid _ _ _ _ w2 (Kd.C_below HRL.out HB2.out) HCL.out HLB.out).mono ?_); rintro e w3 ⟨rfl, hb⟩; have HB3 := Aside0.mk (below_then HB2.out HB2.out.size hb); have h33 := Aside0.mk (blk_below h32.out hb); clear hb)
    | (go_at_call 97; (with_reducible refine (impl_Box_has.calls X Y lw lh (x : Int) (y : Int) _ _ HH.out).mono ?_); rintro e w4 ⟨rfl, hb⟩; have HB4 := Aside0.mk (below_then HB3.out HB3.out.size hb); have h34 := Aside0.mk (blk_below h33.out hb); have r0 : w4.cell? ⟨B3, 0, none⟩ = some (.int .i64 lw) := (blk_cell h34.out 0).trans rfl; have r1 : w4.cell? ⟨B3, 1, none⟩ = some (.int .i64 lh) := (blk_cell h34.out 1).trans rfl; have r2 : w4.cell? ⟨B3, 2, none⟩ = some (.int .i64 p) := (blk_cell h34.out 2).trans rfl; have r3 : w4.cell? ⟨B3, 3, none⟩ = some (.slice AL ld.length cl) := (blk_cell h34.out 3).trans rfl; have r4 : w4.cell? ⟨B3, 4, none⟩ = some (.int .i64 X) := (blk_cell h34.out 4).trans rfl; have r5 : w4.cell? ⟨B3, 5, none⟩ = some (.int .i64 Y) := (blk_cell h34.out 5).trans rfl; have r6 : w4.cell? ⟨B3, 6, none⟩ = some (.int .i64 mode) := (blk_cell h34.out 6).trans rfl; have r7 : w4.cell? ⟨B3, 7, none⟩ = some (.int .i64 alpha) := (blk_cell h34.out 7).trans rfl; have r8 : w4.cell? ⟨B3, 8, none⟩ = some (.bool hid) := (blk_cell h34.out 8).trans rfl; clear hb)
    | (go_at_call 109; (with_reducible refine ((HA2.out w4 (Kd.C_below HRL.out HB4.out)).2).mono ?_); rintro e w5 ⟨rfl, hb⟩; have HB5 := Aside0.mk (below_then HB4.out HB4.out.size hb); have h35 := Aside0.mk (blk_below h34.out hb); clear hb))
  have h3z := blk_alloc h35.out (.cells #[] 3)
  go_loopw [9, 37] (fun v9 v37 W => ∃ i : Nat, v37 = .int .i64 i ∧ i ≤ L.length ∧ (∃ (v : Value) (D : List Int), v = v9 ∧ Aside0 (D = (List.zipWith (blV mode alpha) L U).take i) ∧ Aside0 (D.length ≤ 4) ∧ Aside0 (Kd.R (Kd.int .i64) 3 W w.heap.size (fun _ => True) v D)) ∧ Aside0 (W.heap[B3]? = some (.cells #[.int .i64 lw, .int .i64 lh, .int .i64 p, .slice AL ld.length cl, .int .i64 X, .int .i64 Y, .int .i64 mode, .int .i64 alpha, .bool hid] 55 (0, 0))) ∧ Aside0 (Below w.heap.size w W)) (fun _ v37 _ => L.length - (intOf v37).toNat)
  case atStart => exact ⟨0, rfl, by omega, ⟨_, [], rfl, ⟨by simp⟩, ⟨by simp⟩, ⟨R_empty _ _ _ _ HB5.out.size⟩⟩, ⟨h3z⟩, ⟨below_alloc HB5.out _⟩⟩
  case round =>
    obtain ⟨i, rfl, hi, ⟨v, D, rfl, hD, hdl, hr⟩, h3, hb⟩ := hrel
    clear h3z
    by_cases hil : i < L.length
    · have hdi : decide ((i : Int) < (L.length : Int)) = true := by simp; omega
      have hiu : i < U.length := by have := HLU.out; omega
      have hdu : decide ((i : Int) < (U.length : Int)) = true := by simp; omega
      obtain ⟨ad1, e1, hxl⟩ := Kd.at_int (Kd.C_below HC1.out hb.out) (i : Int) (by omega) (by omega)
      obtain ⟨ad2, e2, hxu⟩ := Kd.at_int (Kd.C_below HC2.out hb.out) (i : Int) (by omega) (by omega)
      subst e1
      subst e2
      rw [Int.toNat_natCast, rd_nat L i hil] at hxl
      rw [Int.toNat_natCast, rd_nat U i hiu] at hxu
      go_wp2
      refine start_ (n := 14) (S := fun w' => w'.cell? ⟨B3, 6, none⟩ = some (.int .i64 mode) ∧ w'.cell? ⟨B3, 7, none⟩ = some (.int .i64 alpha) ∧ w'.cell? (ad2.add i) = some (.int .i64 (U[i]'hiu))) (ds := [12]) #[false, false, false, false, false, false, false, false, false, false, false, false, false, false] (by kernel_rfl) rfl rfl ⟨((blk_cell (blk_below (w := wr) h3.out (below_drew (Below.refl _ _))) 6).trans rfl), ((blk_cell (blk_below (w := wr) h3.out (below_drew (Below.refl _ _))) 7).trans rfl), (((below_drew (Below.refl _ _)).cell (World.block_lt_of_cell? _ _ hxu)).trans hxu)⟩ (fun hHeld => ?_)
      refine pure_ (i := 0) (N := some 42) (v := ?_) (a' := ?_) #[true, false, false, false, false, false, false, false, false, false, false, false, false, false] rfl rfl (by kernel_rfl) (fun _ _ _ h => h) (Or.inl ⟨by rfl, ?_⟩) ?_ ?_
      rotate_left
      · intro w'
        go_simp
        with_reducible rfl
      rotate_left
      · simp only [Act.put, List.setIfInBounds_toArray, List.set_cons_zero, List.set_cons_succ, i64_w, i32_w]
        rfl
      refine pure_ (i := 1) (N := some 43) (v := ?_) (a' := ?_) #[true, true, false, false, false, false, false, false, false, false, false, false, false, false] rfl rfl (by kernel_rfl) (fun _ _ _ h => h) (Or.inl ⟨by rfl, ?_⟩) ?_ ?_
      rotate_left
      · intro w'
        go_simp
        with_reducible rfl
      rotate_left
      · simp only [Act.put, List.setIfInBounds_toArray, List.set_cons_zero, List.set_cons_succ, i64_w, i32_w]
        rfl
      refine pure_ (i := 3) (N := some 45) (v := ?_) (a' := ?_) #[true, true, false, true, false, false, false, false, false, false, false, false, false, false] rfl rfl (by kernel_rfl) (fun _ _ _ h => h) (Or.inl ⟨by rfl, ?_⟩) ?_ ?_
      rotate_left
      · intro w'
        go_simp
        with_reducible rfl
      rotate_left
      · simp only [Act.put, List.setIfInBounds_toArray, List.set_cons_zero, List.set_cons_succ, i64_w, i32_w]
        rfl
      refine pure_ (i := 4) (N := some 46) (v := ?_) (a' := ?_) #[true, true, false, true, true, false, false, false, false, false, false, false, false, false] rfl rfl (by kernel_rfl) (fun _ _ _ h => h) (Or.inl ⟨by rfl, ?_⟩) ?_ ?_
      rotate_left
      · intro w'
        go_simp
        with_reducible rfl
      rotate_left
      · simp only [Act.put, List.setIfInBounds_toArray, List.set_cons_zero, List.set_cons_succ, i64_w, i32_w]
        rfl
      refine pure_ (i := 5) (N := some 47) (v := ?_) (a' := ?_) #[true, true, false, true, true, true, false, false, false, false, false, false, false, false] rfl rfl (by kernel_rfl) (fun _ _ _ h => h) (Or.inl ⟨by rfl, ?_⟩) ?_ ?_
      rotate_left
      · intro w'
        go_simp
        with_reducible rfl
      rotate_left
      · simp only [Act.put, List.setIfInBounds_toArray, List.set_cons_zero, List.set_cons_succ, i64_w, i32_w]
        rfl
      refine pure_ (i := 6) (N := some 48) (v := ?_) (a' := ?_) #[true, true, false, true, true, true, true, false, false, false, false, false, false, false] rfl rfl (by kernel_rfl) (fun _ _ _ h => h) (Or.inl ⟨by rfl, ?_⟩) ?_ ?_
      rotate_left
      · intro w'
        go_simp
        with_reducible rfl
      rotate_left
      · simp only [Act.put, List.setIfInBounds_toArray, List.set_cons_zero, List.set_cons_succ, i64_w, i32_w]
        rfl
      refine pure_ (i := 8) (N := some 50) (v := ?_) (a' := ?_) #[true, true, false, true, true, true, true, false, true, false, false, false, false, false] rfl rfl (by kernel_rfl) (fun _ _ _ h => h) (Or.inl ⟨by rfl, ?_⟩) ?_ ?_
      rotate_left
      · intro w'
        go_simp
        with_reducible rfl
      rotate_left
      · simp only [Act.put, List.setIfInBounds_toArray, List.set_cons_zero, List.set_cons_succ, i64_w, i32_w]
        rfl
      refine take_ (i := 2) (N := some 44) (v := ?_) (a' := ?_) #[true, true, true, true, true, true, true, false, true, false, false, false, false, false] rfl rfl (by kernel_rfl) (fun _ _ _ h => h) (Or.inl ⟨by rfl, ?_⟩) hHeld ?_ ?_
      rotate_left
      · rintro w' ⟨s0, s1, s2⟩
        go_simp
        with_reducible rfl
      rotate_left
      · simp only [Act.put, List.setIfInBounds_toArray, List.set_cons_zero, List.set_cons_succ, i64_w, i32_w]
        rfl
      refine take_ (i := 7) (N := some 49) (v := ?_) (a' := ?_) #[true, true, true, true, true, true, true, true, true, false, false, false, false, false] rfl rfl (by kernel_rfl) (fun _ _ _ h => h) (Or.inl ⟨by rfl, ?_⟩) hHeld ?_ ?_
      rotate_left
      · rintro w' ⟨s0, s1, s2⟩
        go_simp
        with_reducible rfl
      rotate_left
      · simp only [Act.put, List.setIfInBounds_toArray, List.set_cons_zero, List.set_cons_succ, i64_w, i32_w]
        rfl
      refine take_ (i := 9) (N := some 51) (v := ?_) (a' := ?_) #[true, true, true, true, true, true, true, true, true, true, false, false, false, false] rfl rfl (by kernel_rfl) (fun _ _ _ h => h) (Or.inl ⟨by rfl, ?_⟩) hHeld ?_ ?_
      rotate_left
      · rintro w' ⟨s0, s1, s2⟩
        go_simp
        with_reducible rfl
      rotate_left
      · simp only [Act.put, List.setIfInBounds_toArray, List.set_cons_zero, List.set_cons_succ, i64_w, i32_w]
        rfl
      refine one_ (i := 10) (N := some 52) #[true, true, true, true, true, true, true, true, true, true, true, false, false, false] rfl rfl (by kernel_rfl) (by decide) (fun K hK => ?_)
      refine goes_ Try.func143 (by kernel_rfl) rfl #[.int .i64 mode, .int .i64 (L[i]'hil), .int .i64 (U[i]'hiu), .int .i64 alpha] (by rfl) rfl rfl (by simp only [List.map_toArray, List.map_cons, List.map_nil]; rfl) ?_
      with_reducible refine (impl_blended.calls mode (L[i]'hil) (U[i]'hiu) alpha (blV mode alpha (L[i]'hil) (U[i]'hiu)) _ (blV_is _ _ _ _)).mono ?_
      rintro e w3 ⟨rfl, hb3⟩
      refine ⟨_, rfl, ?_⟩
      have h33 := Aside0.mk (blk_below (w := wr.drew) h3.out hb3)
      have hx3 := Aside0.mk ((hb3.cell (World.block_lt_of_cell? _ _ hHeld.2.2)).trans hHeld.2.2)
      have hr3 := Aside0.mk (Kd.R_below (Kd.R_drew hr.out) hb3)
      have hbb3 := Aside0.mk (below_then (below_drew hb.out) (below_drew hb.out).size hb3)
      clear hb3
      refine hK.out _ _ ⟨((blk_cell h33.out 6).trans rfl), ((blk_cell h33.out 7).trans rfl), hx3.out⟩ (fun hHeld => ?_)
      clear hK K
      refine norm_ (a' := ?_) ?_ ?_
      rotate_left
      · show Act.put _ (some 52) _ = _
        simp only [Act.put, List.setIfInBounds_toArray, List.set_cons_zero, List.set_cons_succ, i64_w, i32_w]
        rfl
      refine one_ (i := 11) (N := some 53) #[true, true, true, true, true, true, true, true, true, true, true, true, false, false] rfl rfl (by kernel_rfl) (by decide) (fun K hK => ?_)
      refine value_ (w1 := ?_) (v := ?_) (by rfl) rfl ?_ ?_
      rotate_left 2
      · go_simp
        constructor
        · rfl
        · rfl
      refine hK.out _ _ ⟨((blk_cell (blk_alloc h33.out _) 6).trans rfl), ((blk_cell (blk_alloc h33.out _) 7).trans rfl), ((World.cell?_alloc_lt _ _ _ (World.block_lt_of_cell? _ _ hx3.out)).trans hx3.out)⟩ (fun hHeld => ?_)
      clear hK K
      refine norm_ (a' := ?_) ?_ ?_
      rotate_left
      · show Act.put _ (some 53) _ = _
        simp only [Act.put, List.setIfInBounds_toArray, List.set_cons_zero, List.set_cons_succ, i64_w, i32_w]
        rfl
      refine last_ (i := 12) (N := some 54) #[true, true, true, true, true, true, true, true, true, true, true, true, true, false] rfl rfl (by kernel_rfl) (by decide) (fun K hK => ?_)
      refine Kd.R_append_step (Kd.int .i64) (w0 := w) w.heap.size (by rfl) (.tmp 42) (.tmp 53) 22 3 (.int .i64 0) 8 rfl Try.underlying22 info3 rfl (by decide) (by omega) v D (blV mode alpha (L[i]'hil) (U[i]'hiu)) [.int .i64 (blV mode alpha (L[i]'hil) (U[i]'hiu))] (fun _ => True) (fun _ => False) rfl rfl rfl (fun _ h => h.elim) (fun _ _ => trivial) hr3.out hbb3.out hbb3.out.size (by have := hdl.out; omega) ?_
      intro v5 w5 ho hb5 hg hat
      have h35 := Aside0.mk (blk_grown h33.out hg (Kd.R_ne hr3.out h33.out (by decide)))
      have ho5 := Aside0.mk ho
      have hbb5 := Aside0.mk hb5
      clear ho hg hat hb5
      refine hK.out _ _ ?_
      clear hK K
      refine norm_ (a' := ?_) ?_ ?_
      rotate_left
      · show Act.put _ (some 54) _ = _
        simp only [Act.put, List.setIfInBounds_toArray, List.set_cons_zero, List.set_cons_succ, i64_w, i32_w]
        rfl
      refine pure_ (i := 13) (N := some 9) (v := ?_) (a' := ?_) #[true, true, true, true, true, true, true, true, true, true, true, true, true, true] rfl rfl (by kernel_rfl) (fun _ _ _ h => h) (Or.inl ⟨by rfl, ?_⟩) ?_ ?_
      rotate_left
      · intro w'
        go_simp
        with_reducible rfl
      rotate_left
      · simp only [Act.put, List.setIfInBounds_toArray, List.set_cons_zero, List.set_cons_succ, i64_w, i32_w]
        rfl
      refine done_ (by kernel_rfl) ?_
      go_wp2
      have hl4 := HL4.out
      exact ⟨⟨i + 1, by rw [w64n i (by omega)], by omega, ⟨v5, D ++ [blV mode alpha (L[i]'hil) (U[i]'hiu)], rfl, ⟨by rw [hD.out, List.take_succ_eq_append_getElem (by rw [List.length_zipWith]; omega), List.getElem_zipWith]⟩, ⟨by rw [List.length_append, hD.out, List.length_take, List.length_zipWith]; simp; omega⟩, ho5⟩, h35, hbb5⟩, by rw [w64n i (by omega)]; simp [intOf]; omega⟩
    · have hdi : decide ((i : Int) < (L.length : Int)) = false := by simp; omega
      have hie : i = L.length := by omega
      subst hie
      go_wp2
      go_ret
      exact ⟨_, rfl, by
        have h := hr.out
        rw [hD.out, List.take_of_length_le (by rw [List.length_zipWith]; omega)] at h
        exact h, hb.out⟩
theorem cover1_calls (a b p : Int) (A : Option Addr) (c : Nat) (d : List Int) (hv : validI a b p d = true) (hc : d.length ≤ c) (lw lh X Y mode alpha : Int) (hid : Bool) (AL : Option Addr) (cl : Nat) (ld : List Int) (hvl : validI lw lh p ld = true) (hcl : ld.length ≤ cl) (hX : -16 ≤ X ∧ X ≤ 16) (hY : -16 ≤ Y ∧ Y ≤ 16) (x y : Nat) (hx : (x : Int) < a) (hy : (y : Int) < b) (B : Nat) (B3 : Nat) (w : World) (h1 : w.heap[B]? = some (.cells #[.int .i64 a, .int .i64 b, .int .i64 p, .slice A d.length c] 27 (0, 0))) (h3 : w.heap[B3]? = some (.cells #[.int .i64 lw, .int .i64 lh, .int .i64 p, .slice AL ld.length cl, .int .i64 X, .int .i64 Y, .int .i64 mode, .int .i64 alpha, .bool hid] 55 (0, 0))) (hr : Kd.C (Kd.int .i64) w A d.length d) (hrl : Kd.C (Kd.int .i64) w AL ld.length ld) :
    Calls Try.prog 142 (#[.int .i64 (x : Int), .int .i64 (y : Int)] ++ #[.pointer (some ⟨B, 0, none⟩), .pointer (some ⟨B3, 0, none⟩)]) w fun e w' => ∃ (A' : Option Addr) (c' : Nat), e = .returned (.slice A' (coverPx a p d lw lh ld X Y mode alpha x y).length c') ∧ Kd.C (Kd.int .i64) w' A' (coverPx a p d lw lh ld X Y mode alpha x y).length (coverPx a p d lw lh ld X Y mode alpha x y) ∧ (coverPx a p d lw lh ld X Y mode alpha x y).length ≤ c' ∧ Below w.heap.size w w' := by
  unfold coverPx
  cases hin : inBoxZ X Y lw lh x y with
  | false =>
    simp only [Bool.false_eq_true, if_false]
    exact cover1_out a b p A c d hv hc lw lh X Y mode alpha hid AL cl ld hvl hcl hX hY x y hx hy B B3 w h1 h3 hr hrl hin
  | true =>
    simp only [if_true]
    refine (cover1_in a b p A c d hv hc lw lh X Y mode alpha hid AL cl ld hvl hcl hX hY x y hx hy B B3 w h1 h3 hr hrl hin).mono ?_
    rintro e w' ⟨v, rfl, hR, hb⟩
    obtain ⟨A', c', rfl, hl, hC⟩ := Kd.R_reads hR
    exact ⟨A', c', rfl, hC, hl, hb⟩
theorem coverPx_le {a b p : Int} {d : List Int} (hv : validI a b p d = true) (lw lh : Int) (ld : List Int) (X Y mode alpha : Int) {x y : Nat} (hx : (x : Int) < a) (hy : (y : Int) < b) : (coverPx a p d lw lh ld X Y mode alpha x y).length ≤ 4 := by
  have h := pxAt_le hv hx hy
  unfold coverPx
  split
  · rw [List.length_zipWith]; omega
  · exact h

/- impl.imageBy: the image whose pixels a function value tells. -/

set_option maxHeartbeats 4000000 in
set_option maxRecDepth 100000 in
theorem imageBy_calls (q : Nat) (lb : Array Value) (px : Nat → Nat → List Int) (a b : Nat) (p : Int) (ha : a ≤ 16) (hb_ : b ≤ 16) (w : World)
    (eg : ∀ args W, (callFunc q args).run Try.prog W = .ok (.enter q args) W) (hpl : ∀ x y, x < a → y < b → (px x y).length ≤ 4)
    (hp : ∀ (W : World) (x y : Nat), x < a → y < b → Below w.heap.size w W → Calls Try.prog q (#[.int .i64 (x : Int), .int .i64 (y : Int)] ++ lb) W fun e W' => ∃ (A : Option Addr) (c : Nat), e = .returned (.slice A (px x y).length c) ∧ Kd.C (Kd.int .i64) W' A (px x y).length (px x y) ∧ (px x y).length ≤ c ∧ Below W.heap.size W W') :
    Calls Try.prog 107 #[.int .i64 (a : Int), .int .i64 (b : Int), .int .i64 p, .func (.func q) #[] lb] w fun e w' => ∃ v3_ : Value, e = .returned (.agg #[.int .i64 (a : Int), .int .i64 (b : Int), .int .i64 p, v3_]) ∧ Kd.R (Kd.int .i64) 3 w' w.heap.size (fun _ => True) v3_ (imgD px a b) ∧ Below w.heap.size w w' := by
  have HP := Aside0.mk hp
  have EG := Aside0.mk eg
  have HB0 := Aside0.mk (Below.refl w.heap.size w)
  have hu := Try.underlying27
  have hui := Try.underlying22
  clear hp eg
  go_enter Try.func107, Try.ntmps107
  go_wp2_with (first
    | ((with_reducible refine gate_dst (N := 8) rfl ?_); refine box_event ?hg (N := 8) ?hd (cs := #[.int .i64 0, .int .i64 0, .int .i64 0, .slice none 0 0]) (t := 27) ?hr ?_; (case hd => rfl); (case hg => rfl); (case hr => first | (go_simp; done) | (go_simp; rfl)); intro g8 hg_ w1 hbox hb; have HB1 := Aside0.mk (below_then HB0.out HB0.out.size hb); have K1 := Aside0.mk hbox; have Gg8 := Aside0.mk (show w.heap.size ≤ g8 from by rw [hg_]; exact HB0.out.size); clear hbox hb hg_))
  have HGM := blk_new w1 (.cells #[.int .i64 (a : Int), .int .i64 (b : Int), .int .i64 p, .slice none 0 0] 27 (0, 0))
  obtain ⟨g9, hg9⟩ : ∃ g9, g9 = w1.heap.size := ⟨_, rfl⟩
  have G89 : g8 < g9 := by rw [hg9]; exact blk_lt K1.out
  have GE9 : w.heap.size ≤ g9 := by have := Gg8.out; omega
  rw [← hg9] at HGM ⊢
  go_loopw [17] (fun v17 W => ∃ y : Nat, v17 = .int .i64 y ∧ y ≤ b ∧ (∃ (v : Value) (D : List Int), Aside0 (D = imgD px a y) ∧ Aside0 (D.length ≤ 64 * y) ∧ Aside0 (Kd.R (Kd.int .i64) 3 W w.heap.size (fun _ => True) v D) ∧ Aside0 (W.heap[g9]? = some (.cells #[.int .i64 (a : Int), .int .i64 (b : Int), .int .i64 p, v] 27 (0, 0)))) ∧ Aside0 (W.heap[g8]? = some (.cells #[.int .i64 0, .int .i64 0, .int .i64 0, .slice none 0 0] 27 (0, 0))) ∧ Aside0 (Below w.heap.size w W)) (fun v17 _ => b - (intOf v17).toNat)
  case atStart => exact ⟨0, rfl, by omega, ⟨_, [], ⟨rfl⟩, ⟨by simp⟩, ⟨Kd.R_nil _ _ _ _ _⟩, ⟨HGM⟩⟩, ⟨blk_alloc K1.out _⟩, ⟨below_alloc HB1.out _⟩⟩
  case round =>
    clear HGM hg9
    obtain ⟨y, rfl, hy, ⟨v, D, hD, hdl, hr, h9⟩, h8, hb⟩ := hrel
    by_cases hly : y < b
    · have hdy : decide ((y : Int) < (b : Int)) = true := by simp; omega
      go_wp2
      go_loopw [21] (fun v21 W => ∃ x : Nat, v21 = .int .i64 x ∧ x ≤ a ∧ (∃ (v : Value) (D : List Int), Aside0 (D = imgD px a y ++ rowD px x y) ∧ Aside0 (D.length ≤ 64 * y + 4 * x) ∧ Aside0 (Kd.R (Kd.int .i64) 3 W w.heap.size (fun _ => True) v D) ∧ Aside0 (W.heap[g9]? = some (.cells #[.int .i64 (a : Int), .int .i64 (b : Int), .int .i64 p, v] 27 (0, 0)))) ∧ Aside0 (W.heap[g8]? = some (.cells #[.int .i64 0, .int .i64 0, .int .i64 0, .slice none 0 0] 27 (0, 0))) ∧ Aside0 (Below w.heap.size w W)) (fun v21 _ => a - (intOf v21).toNat)
      case atStart => exact ⟨0, rfl, by omega, ⟨v, D, ⟨by rw [hD.out]; simp [rowD]⟩, hdl, hr, h9⟩, h8, hb⟩
      case round =>
        clear hr h9 h8 hb hdl hD
        obtain ⟨x, rfl, hx, ⟨v, D, hD, hdl, hr, h9⟩, h8, hb⟩ := hrel
        by_cases hlx : x < a
        · have hdx : decide ((x : Int) < (a : Int)) = true := by simp; omega
          go_wp2
          refine start_ (n := 9) (S := fun w' => w'.cell? ⟨g9, 3, none⟩ = some v) (ds := [8]) #[false, false, false, false, false, false, false, false, false] (by kernel_rfl) rfl rfl (((blk_cell (w := wr.drew) h9.out 3).trans rfl)) (fun hHeld => ?_)
          refine pure_ (i := 0) (N := some 24) (v := ?_) (a' := ?_) #[true, false, false, false, false, false, false, false, false] rfl rfl (by kernel_rfl) (fun _ _ _ h => h) (Or.inl ⟨by rfl, ?_⟩) ?_ ?_
          rotate_left
          · intro w'
            go_simp
            with_reducible rfl
          rotate_left
          · simp only [Act.put, List.setIfInBounds_toArray, List.set_cons_zero, List.set_cons_succ, i64_w, i32_w]
            rfl
          refine pure_ (i := 2) (N := some 26) (v := ?_) (a' := ?_) #[true, false, true, false, false, false, false, false, false] rfl rfl (by kernel_rfl) (fun _ _ _ h => h) (Or.inl ⟨by rfl, ?_⟩) ?_ ?_
          rotate_left
          · intro w'
            go_simp
            with_reducible rfl
          rotate_left
          · simp only [Act.put, List.setIfInBounds_toArray, List.set_cons_zero, List.set_cons_succ, i64_w, i32_w]
            rfl
          refine pure_ (i := 3) (N := some 27) (v := ?_) (a' := ?_) #[true, false, true, true, false, false, false, false, false] rfl rfl (by kernel_rfl) (fun _ _ _ h => h) (Or.inl ⟨by rfl, ?_⟩) ?_ ?_
          rotate_left
          · intro w'
            go_simp
            with_reducible rfl
          rotate_left
          · simp only [Act.put, List.setIfInBounds_toArray, List.set_cons_zero, List.set_cons_succ, i64_w, i32_w]
            rfl
          refine pure_ (i := 4) (N := some 28) (v := ?_) (a' := ?_) #[true, false, true, true, true, false, false, false, false] rfl rfl (by kernel_rfl) (fun _ _ _ h => h) (Or.inl ⟨by rfl, ?_⟩) ?_ ?_
          rotate_left
          · intro w'
            go_simp
            with_reducible rfl
          rotate_left
          · simp only [Act.put, List.setIfInBounds_toArray, List.set_cons_zero, List.set_cons_succ, i64_w, i32_w]
            rfl
          refine take_ (i := 1) (N := some 25) (v := ?_) (a' := ?_) #[true, true, true, true, true, false, false, false, false] rfl rfl (by kernel_rfl) (fun _ _ _ h => h) (Or.inl ⟨by rfl, ?_⟩) hHeld ?_ ?_
          rotate_left
          · intro w' s0
            go_simp
            with_reducible rfl
          rotate_left
          · simp only [Act.put, List.setIfInBounds_toArray, List.set_cons_zero, List.set_cons_succ, i64_w, i32_w]
            rfl
          refine one_ (i := 5) (N := some 29) #[true, true, true, true, true, true, false, false, false] rfl rfl (by kernel_rfl) (by decide) (fun K hK => ?_)
          refine call_ q (#[.int .i64 (x : Int), .int .i64 (y : Int)] ++ lb) (by rfl) rfl (fn_runs q lb EG.out rfl rfl _ (by simp only [List.map_toArray, List.map_cons, List.map_nil]; rfl)) ?_
          refine (HP.out _ x y hlx hly (below_drew hb.out)).mono ?_
          rintro e w3 ⟨A, c, rfl, hC, hl3, hb3⟩
          refine ⟨_, rfl, ?_⟩
          have h93 := Aside0.mk (blk_below (w := wr.drew) h9.out hb3)
          have h83 := Aside0.mk (blk_below (w := wr.drew) h8.out hb3)
          have hr3 := Aside0.mk (Kd.R_below (Kd.R_drew hr.out) hb3)
          have hbb3 := Aside0.mk (below_then (below_drew hb.out) (below_drew hb.out).size hb3)
          have hC3 := Aside0.mk hC
          have hl3' := Aside0.mk hl3
          have HPL := Aside0.mk (hpl x y hlx hly)
          clear hb3 hC hl3
          refine hK.out _ _ (((blk_cell h93.out 3).trans rfl)) (fun hHeld => ?_)
          clear hK K
          refine norm_ (a' := ?_) ?_ ?_
          rotate_left
          · show Act.put _ (some 29) _ = _
            simp only [Act.put, List.setIfInBounds_toArray, List.set_cons_zero, List.set_cons_succ, i64_w, i32_w]
            rfl
          refine one_ (i := 6) (N := some 30) #[true, true, true, true, true, true, true, false, false] rfl rfl (by kernel_rfl) (by decide) (fun K hK => ?_)
          refine Kd.R_append_rows_step (Kd.int .i64) (w0 := w) w.heap.size (by rfl) (.tmp 25) (.tmp 29) 22 3 (.int .i64 0) 8 rfl Try.underlying22 info3 rfl (by decide) (by omega) v D (px x y) _ _ _ (fun _ => True) (fun _ => False) rfl rfl hr3.out hC3.out (fun _ _ h => h) (fun _ h => h.elim) (fun _ _ => trivial) hbb3.out hbb3.out.size (by have := HPL.out; have := hdl.out; omega) ?_
          intro v5 w5 ho hb5 hg hat
          have h95 := Aside0.mk (blk_grown h93.out hg (Kd.R_ne hr3.out h93.out (by decide)))
          have h85 := Aside0.mk (blk_grown h83.out hg (Kd.R_ne hr3.out h83.out (by decide)))
          have ho5 := Aside0.mk ho
          have hbb5 := Aside0.mk hb5
          clear ho hb5 hg hat
          obtain ⟨A5, q5, e5⟩ := Kd.R_slice ho5.out
          subst e5
          refine hK.out _ _ (((blk_cell h95.out 3).trans rfl)) (fun hHeld => ?_)
          clear hK K
          refine norm_ (a' := ?_) ?_ ?_
          rotate_left
          · show Act.put _ (some 30) _ = _
            simp only [Act.put, List.setIfInBounds_toArray, List.set_cons_zero, List.set_cons_succ, i64_w, i32_w]
            rfl
          refine pure_ (i := 7) (N := some 31) (v := ?_) (a' := ?_) #[true, true, true, true, true, true, true, true, false] rfl rfl (by kernel_rfl) (fun _ _ _ h => h) (Or.inl ⟨by rfl, ?_⟩) ?_ ?_
          rotate_left
          · intro w'
            go_simp
            with_reducible rfl
          rotate_left
          · simp only [Act.put, List.setIfInBounds_toArray, List.set_cons_zero, List.set_cons_succ, i64_w, i32_w]
            rfl
          refine last_ (i := 8) (N := none) #[true, true, true, true, true, true, true, true, true] rfl rfl (by kernel_rfl) (by decide) (fun K hK => ?_)
          have c95 := (blk_cell h95.out 3).trans rfl
          have f95 := blk_frozen h95.out 3
          refine skip_ (w1 := ?_) (by rfl) rfl ?_ ?_
          rotate_left
          · go_simp
            rfl
          refine hK.out _ _ ?_
          clear hK K
          refine done_ (by kernel_rfl) ?_
          go_wp2
          exact ⟨⟨x + 1, by go_num, by omega, ⟨_, D ++ px x y, ⟨by rw [hD.out, rowD_succ, List.append_assoc]⟩, ⟨by rw [List.length_append]; have := hdl.out; have := HPL.out; omega⟩, ⟨Kd.R_mono (Kd.R_far (p := ⟨g9, 3, none⟩) (Kd.R_types ho5.out h95.out (by decide)) (fun _ hk => hk.2) _) (fun _ _ => trivial)⟩, ⟨blk_put h95.out 3 _ (by rw [List.length_append]; rfl)⟩⟩, ⟨blk_far h85.out (by simp; omega) _⟩, ⟨below_set hbb5.out (by omega)⟩⟩, by simp [intOf]; omega⟩
        · have hdx : decide ((x : Int) < (a : Int)) = false := by simp; omega
          have hxe : x = a := by omega
          subst hxe
          go_wp2
          go_roundw
          case rel => exact ⟨y + 1, by go_num, by omega, ⟨v, D, ⟨by rw [hD.out, imgD_succ]⟩, ⟨by have := hdl.out; omega⟩, hr, h9⟩, h8, hb⟩
          case measure => simp [intOf]; omega
    · have hdy : decide ((y : Int) < (b : Int)) = false := by simp; omega
      have hye : y = b := by omega
      subst hye
      have m0 := blk_cell h9.out 0; have m1 := blk_cell h9.out 1; have m2 := blk_cell h9.out 2; have m3 := blk_cell h9.out 3
      have z0 := blk_cell h8.out 0; have z1 := blk_cell h8.out 1; have z2 := blk_cell h8.out 2; have z3 := blk_cell h8.out 3
      have y0 := blk_frozen h8.out 0; have y1 := blk_frozen h8.out 1; have y2 := blk_frozen h8.out 2; have y3 := blk_frozen h8.out 3
      obtain ⟨A5, q5, e5⟩ := Kd.R_slice hr.out
      subst e5
      go_wp2
      have hD' := hD.out
      subst hD'
      have RR := Kd.R_types hr.out h8.out (by decide)
      have G8 := Gg8.out
      have H8 := h8.out
      refine bodyPost_ret (results_cell_row rfl _ _ g8 27 #[.int .i64 (a : Int), .int .i64 (y : Int), .int .i64 p, .slice A5 (imgD px a y).length q5] (0, 0) _ rfl (by
        refine blk_put (cs := #[.int .i64 (a : Int), .int .i64 (y : Int), .int .i64 p, .slice none 0 0]) ?_ 3 _ rfl
        refine blk_put (cs := #[.int .i64 (a : Int), .int .i64 (y : Int), .int .i64 0, .slice none 0 0]) ?_ 2 _ rfl
        refine blk_put (cs := #[.int .i64 (a : Int), .int .i64 0, .int .i64 0, .slice none 0 0]) ?_ 1 _ rfl
        refine blk_put (cs := #[.int .i64 0, .int .i64 0, .int .i64 0, .slice none 0 0]) ?_ 0 _ rfl
        exact H8
        ) hu rfl (by kernel_rfl)) rfl ?_
      exact ⟨_, rfl, Kd.R_mono (Kd.R_far (Kd.R_far (Kd.R_far (Kd.R_far RR (fun k hk => hk.2) _) (fun k hk => hk.2) _) (fun k hk => hk.2) _) (fun k hk => hk.2) _) (fun _ _ => trivial), below_set (below_set (below_set (below_set hb.out (by omega)) (by omega)) (by omega)) (by omega)⟩

/- impl.coverImage: an image that is covered by a valid layer. -/

def impl_coverImage.f (a b p : Int) (d : List Int) (lw lh lp : Int) (ld : List Int) (X Y mode alpha : Int) (hid : Bool) : Option (Int × Int × Int × List Int) :=
  if validI a b p d = true ∧ validI lw lh lp ld = true ∧ lp = p ∧ (-16 ≤ X ∧ X ≤ 16) ∧ (-16 ≤ Y ∧ Y ≤ 16) then some (a, b, p, imgD (coverPx a p d lw lh ld X Y mode alpha) a.toNat b.toNat) else none
set_option maxHeartbeats 4000000 in
set_option maxRecDepth 100000 in
theorem cover_yes (a b : Nat) (p : Int) (A : Option Addr) (c : Nat) (d : List Int) (lw lh : Int) (AL : Option Addr) (cl : Nat) (ld : List Int) (X Y mode alpha : Int) (hid : Bool) (w : World) (hr0_3 : Kd.C (Kd.int .i64) w A d.length d) (hc0_3 : d.length ≤ c) (hr1_3 : Kd.C (Kd.int .i64) w AL ld.length ld) (hc1_3 : ld.length ≤ cl) (hv1 : validI a b p d = true) (hvl : validI lw lh p ld = true) (hX : -16 ≤ X ∧ X ≤ 16) (hY : -16 ≤ Y ∧ Y ≤ 16) :
    Calls Try.prog 105 #[.agg #[.int .i64 (a : Int), .int .i64 (b : Int), .int .i64 p, .slice A d.length c], .agg #[.int .i64 lw, .int .i64 lh, .int .i64 p, .slice AL ld.length cl, .int .i64 X, .int .i64 Y, .int .i64 mode, .int .i64 alpha, .bool hid]] w fun e w' => ∃ v3_ : Value, e = .returned (.agg #[.int .i64 (a : Int), .int .i64 (b : Int), .int .i64 p, v3_]) ∧ Kd.R (Kd.int .i64) 3 w' w.heap.size (fun _ => True) v3_ (imgD (coverPx a p d lw lh ld X Y mode alpha) a b) ∧ Below w.heap.size w w' := by
  have HC := Aside0.mk hc0_3
  have HR := Aside0.mk hr0_3
  have HCL := Aside0.mk hc1_3
  have HRL := Aside0.mk hr1_3
  have HB0 := Aside0.mk (Below.refl w.heap.size w)
  have HV := Aside0.mk hv1
  have HVL := Aside0.mk hvl
  have HXY := Aside0.mk (And.intro hX hY)
  have hu := Try.underlying27
  have hs := ((validI_iff a b p d).1 hv1).1
  have HPL := Aside0.mk (show ∀ x y, x < a → y < b → (coverPx a p d lw lh ld X Y mode alpha x y).length ≤ 4 from fun x y hx hy => coverPx_le hv1 lw lh ld X Y mode alpha (by omega) (by omega))
  clear hr0_3 hc0_3 hr1_3 hc1_3 hv1 hvl hX hY
  go_enter Try.func105, Try.ntmps105
  go_wp2_with (first
    | ((with_reducible refine gate_dst (N := 2) rfl ?_); refine box_event ?hg (N := 2) ?hd (cs := #[.int .i64 (a : Int), .int .i64 (b : Int), .int .i64 p, .slice A d.length c]) (t := 27) ?hr ?_; (case hd => rfl); (case hg => rfl); (case hr => first | (go_simp; done) | (go_simp; rfl)); intro g1 hg_ w1 hbox hb; have HB1 := Aside0.mk (below_then HB0.out HB0.out.size hb); have Kb0 := Aside0.mk hbox; have Gg1 := Aside0.mk (show w.heap.size ≤ g1 from by rw [hg_]; exact HB0.out.size); have Kg1_1 := Aside0.mk hbox; clear hbox hb hg_)
    | ((with_reducible refine gate_dst (N := 3) rfl ?_); refine box_event ?hg (N := 3) ?hd (cs := #[.int .i64 lw, .int .i64 lh, .int .i64 p, .slice AL ld.length cl, .int .i64 X, .int .i64 Y, .int .i64 mode, .int .i64 alpha, .bool hid]) (t := 55) ?hr ?_; (case hd => rfl); (case hg => rfl); (case hr => first | (go_simp; done) | (go_simp; rfl)); intro g3 hg_ w2 hbox hb; have HB2 := Aside0.mk (below_then HB1.out HB1.out.size hb); have Kb1 := Aside0.mk hbox; have Gg3 := Aside0.mk (show w.heap.size ≤ g3 from by rw [hg_]; exact HB1.out.size); have Kg1_2 := Aside0.mk (blk_below Kg1_1.out hb); have Kg3_2 := Aside0.mk hbox; clear hbox hb hg_)
    | ((with_reducible refine gate_dst (N := 4) rfl ?_); refine box_event ?hg (N := 4) ?hd (cs := #[.int .i64 0, .int .i64 0, .int .i64 0, .slice none 0 0]) (t := 27) ?hr ?_; (case hd => rfl); (case hg => rfl); (case hr => first | (go_simp; done) | (go_simp; rfl)); intro g2 hg_ w3 hbox hb; have HB3 := Aside0.mk (below_then HB2.out HB2.out.size hb); have Kb2 := Aside0.mk hbox; have Gg2 := Aside0.mk (show w.heap.size ≤ g2 from by rw [hg_]; exact HB2.out.size); have Kg1_3 := Aside0.mk (blk_below Kg1_2.out hb); have Kg3_3 := Aside0.mk (blk_below Kg3_2.out hb); have Kg2_3 := Aside0.mk hbox; have fg1_0 : w3.cell? ⟨g1, 0, none⟩ = some (.int .i64 (a : Int)) := (blk_cell Kg1_3.out 0).trans rfl; have fg1_1 : w3.cell? ⟨g1, 1, none⟩ = some (.int .i64 (b : Int)) := (blk_cell Kg1_3.out 1).trans rfl; have fg1_2 : w3.cell? ⟨g1, 2, none⟩ = some (.int .i64 p) := (blk_cell Kg1_3.out 2).trans rfl; have fg1_3 : w3.cell? ⟨g1, 3, none⟩ = some (.slice A d.length c) := (blk_cell Kg1_3.out 3).trans rfl; have fg3_0 : w3.cell? ⟨g3, 0, none⟩ = some (.int .i64 lw) := (blk_cell Kg3_3.out 0).trans rfl; have fg3_1 : w3.cell? ⟨g3, 1, none⟩ = some (.int .i64 lh) := (blk_cell Kg3_3.out 1).trans rfl; have fg3_2 : w3.cell? ⟨g3, 2, none⟩ = some (.int .i64 p) := (blk_cell Kg3_3.out 2).trans rfl; have fg3_3 : w3.cell? ⟨g3, 3, none⟩ = some (.slice AL ld.length cl) := (blk_cell Kg3_3.out 3).trans rfl; have fg3_4 : w3.cell? ⟨g3, 4, none⟩ = some (.int .i64 X) := (blk_cell Kg3_3.out 4).trans rfl; have fg3_5 : w3.cell? ⟨g3, 5, none⟩ = some (.int .i64 Y) := (blk_cell Kg3_3.out 5).trans rfl; have fg3_6 : w3.cell? ⟨g3, 6, none⟩ = some (.int .i64 mode) := (blk_cell Kg3_3.out 6).trans rfl; have fg3_7 : w3.cell? ⟨g3, 7, none⟩ = some (.int .i64 alpha) := (blk_cell Kg3_3.out 7).trans rfl; have fg3_8 : w3.cell? ⟨g3, 8, none⟩ = some (.bool hid) := (blk_cell Kg3_3.out 8).trans rfl; have fg2_0 : w3.cell? ⟨g2, 0, none⟩ = some (.int .i64 0) := (blk_cell Kg2_3.out 0).trans rfl; have fg2_1 : w3.cell? ⟨g2, 1, none⟩ = some (.int .i64 0) := (blk_cell Kg2_3.out 1).trans rfl; have fg2_2 : w3.cell? ⟨g2, 2, none⟩ = some (.int .i64 0) := (blk_cell Kg2_3.out 2).trans rfl; have fg2_3 : w3.cell? ⟨g2, 3, none⟩ = some (.slice none 0 0) := (blk_cell Kg2_3.out 3).trans rfl; have yg2_0 := blk_frozen Kg2_3.out 0; have yg2_1 := blk_frozen Kg2_3.out 1; have yg2_2 := blk_frozen Kg2_3.out 2; have yg2_3 := blk_frozen Kg2_3.out 3; clear hbox hb hg_)
    | (go_at_call 107; refine (imageBy_calls 142 #[.pointer (some ⟨g1, 0, none⟩), .pointer (some ⟨g3, 0, none⟩)] (coverPx a p d lw lh ld X Y mode alpha) a b p (by omega) (by omega) w3 (enters_of Try.func142 (by kernel_rfl) rfl) HPL.out (fun W x y hx hy hW => cover1_calls a b p A c d HV.out HC.out lw lh X Y mode alpha hid AL cl ld HVL.out HCL.out HXY.out.1 HXY.out.2 x y (by omega) (by omega) g1 g3 W (blk_below Kg1_3.out hW) (blk_below Kg3_3.out hW) (Kd.C_below (Kd.C_below HR.out HB3.out) hW) (Kd.C_below (Kd.C_below HRL.out HB3.out) hW))).mono ?_; rintro e w4 ⟨v4, rfl, hr4, hb_⟩; have HB4 := Aside0.mk (below_then HB3.out HB3.out.size hb_); have Kg1_4 := Aside0.mk (blk_below Kg1_3.out hb_); have eg1_4_0 : w4.cell? ⟨g1, 0, none⟩ = some (.int .i64 (a : Int)) := (blk_cell Kg1_4.out 0).trans rfl; have eg1_4_1 : w4.cell? ⟨g1, 1, none⟩ = some (.int .i64 (b : Int)) := (blk_cell Kg1_4.out 1).trans rfl; have eg1_4_2 : w4.cell? ⟨g1, 2, none⟩ = some (.int .i64 p) := (blk_cell Kg1_4.out 2).trans rfl; have eg1_4_3 : w4.cell? ⟨g1, 3, none⟩ = some (.slice A d.length c) := (blk_cell Kg1_4.out 3).trans rfl; have Kg3_4 := Aside0.mk (blk_below Kg3_3.out hb_); have eg3_4_0 : w4.cell? ⟨g3, 0, none⟩ = some (.int .i64 lw) := (blk_cell Kg3_4.out 0).trans rfl; have eg3_4_1 : w4.cell? ⟨g3, 1, none⟩ = some (.int .i64 lh) := (blk_cell Kg3_4.out 1).trans rfl; have eg3_4_2 : w4.cell? ⟨g3, 2, none⟩ = some (.int .i64 p) := (blk_cell Kg3_4.out 2).trans rfl; have eg3_4_3 : w4.cell? ⟨g3, 3, none⟩ = some (.slice AL ld.length cl) := (blk_cell Kg3_4.out 3).trans rfl; have eg3_4_4 : w4.cell? ⟨g3, 4, none⟩ = some (.int .i64 X) := (blk_cell Kg3_4.out 4).trans rfl; have eg3_4_5 : w4.cell? ⟨g3, 5, none⟩ = some (.int .i64 Y) := (blk_cell Kg3_4.out 5).trans rfl; have eg3_4_6 : w4.cell? ⟨g3, 6, none⟩ = some (.int .i64 mode) := (blk_cell Kg3_4.out 6).trans rfl; have eg3_4_7 : w4.cell? ⟨g3, 7, none⟩ = some (.int .i64 alpha) := (blk_cell Kg3_4.out 7).trans rfl; have eg3_4_8 : w4.cell? ⟨g3, 8, none⟩ = some (.bool hid) := (blk_cell Kg3_4.out 8).trans rfl; have Kg2_4 := Aside0.mk (blk_below Kg2_3.out hb_); have eg2_4_0 : w4.cell? ⟨g2, 0, none⟩ = some (.int .i64 0) := (blk_cell Kg2_4.out 0).trans rfl; have eg2_4_1 : w4.cell? ⟨g2, 1, none⟩ = some (.int .i64 0) := (blk_cell Kg2_4.out 1).trans rfl; have eg2_4_2 : w4.cell? ⟨g2, 2, none⟩ = some (.int .i64 0) := (blk_cell Kg2_4.out 2).trans rfl; have eg2_4_3 : w4.cell? ⟨g2, 3, none⟩ = some (.slice none 0 0) := (blk_cell Kg2_4.out 3).trans rfl; have yg2_4_0 := blk_frozen Kg2_4.out 0; have yg2_4_1 := blk_frozen Kg2_4.out 1; have yg2_4_2 := blk_frozen Kg2_4.out 2; have yg2_4_3 := blk_frozen Kg2_4.out 3; have HR4 := Aside0.mk (Kd.R_lower hr4 HB3.out.size); obtain ⟨A4, c4, ev4⟩ := Kd.R_slice HR4.out; subst ev4; clear hr4 hb_))
  have G2 := Gg2.out
  have RR := Kd.R_types HR4.out Kg2_4.out (by decide)
  refine bodyPost_ret (results_cell_row rfl _ _ g2 27 #[.int .i64 (a : Int), .int .i64 (b : Int), .int .i64 p, .slice A4 (imgD (coverPx a p d lw lh ld X Y mode alpha) a b).length c4] (0, 0) _ rfl (by
    refine blk_put (cs := #[.int .i64 (a : Int), .int .i64 (b : Int), .int .i64 p, .slice none 0 0]) ?_ 3 _ rfl
    refine blk_put (cs := #[.int .i64 (a : Int), .int .i64 (b : Int), .int .i64 0, .slice none 0 0]) ?_ 2 _ rfl
    refine blk_put (cs := #[.int .i64 (a : Int), .int .i64 0, .int .i64 0, .slice none 0 0]) ?_ 1 _ rfl
    refine blk_put (cs := #[.int .i64 0, .int .i64 0, .int .i64 0, .slice none 0 0]) ?_ 0 _ rfl
    exact Kg2_4.out
    ) hu rfl (by kernel_rfl)) rfl ?_
  exact ⟨_, rfl, Kd.R_mono (Kd.R_far (Kd.R_far (Kd.R_far (Kd.R_far RR (fun k hk => hk.2) _) (fun k hk => hk.2) _) (fun k hk => hk.2) _) (fun k hk => hk.2) _) (fun _ _ => trivial), below_set (below_set (below_set (below_set HB4.out (by omega)) (by omega)) (by omega)) (by omega)⟩
theorem impl_coverImage.calls (a b p : Int) (A : Option Addr) (c : Nat) (d : List Int) (lw lh lp : Int) (AL : Option Addr) (cl : Nat) (ld : List Int) (X Y mode alpha : Int) (hid : Bool) (r1 r2 r3 : Int) (r4 : List Int) (w : World) (hr0_3 : Kd.C (Kd.int .i64) w A d.length d) (hc0_3 : d.length ≤ c) (hr1_3 : Kd.C (Kd.int .i64) w AL ld.length ld) (hc1_3 : ld.length ≤ cl) (h : impl_coverImage.f a b p d lw lh lp ld X Y mode alpha hid = some (r1, r2, r3, r4)) :
    Calls Try.prog 105 #[.agg #[.int .i64 a, .int .i64 b, .int .i64 p, .slice A d.length c], .agg #[.int .i64 lw, .int .i64 lh, .int .i64 lp, .slice AL ld.length cl, .int .i64 X, .int .i64 Y, .int .i64 mode, .int .i64 alpha, .bool hid]] w fun e w' => ∃ v3_ : Value, e = .returned (.agg #[.int .i64 r1, .int .i64 r2, .int .i64 r3, v3_]) ∧ Kd.R (Kd.int .i64) 3 w' w.heap.size (fun _ => True) v3_ r4 ∧ Below w.heap.size w w' := by
  unfold impl_coverImage.f at h
  by_cases hc : validI a b p d = true ∧ validI lw lh lp ld = true ∧ lp = p ∧ (-16 ≤ X ∧ X ≤ 16) ∧ (-16 ≤ Y ∧ Y ≤ 16)
  · rw [if_pos hc] at h
    obtain ⟨hv1, hvl, rfl, hX, hY⟩ := hc
    have hs := ((validI_iff a b lp d).1 hv1).1
    obtain ⟨an, rfl⟩ := Int.eq_ofNat_of_zero_le (show 0 ≤ a by omega)
    obtain ⟨bn, rfl⟩ := Int.eq_ofNat_of_zero_le (show 0 ≤ b by omega)
    obtain ⟨rfl, rfl, rfl, rfl⟩ : (an : Int) = r1 ∧ (bn : Int) = r2 ∧ lp = r3 ∧ imgD (coverPx an lp d lw lh ld X Y mode alpha) an bn = r4 := by simpa using h
    exact cover_yes an bn lp A c d lw lh AL cl ld X Y mode alpha hid w hr0_3 hc0_3 hr1_3 hc1_3 hv1 hvl hX hY
  · rw [if_neg hc] at h; cases h
end Go.Proofs.Ytnofkbbcbpjhfaa.Q

namespace Go.Proofs.Ytnofkbbcbpjhfaa.Q
open Go.RowKit Go.Proofs.YtnofkbbcbpjhfaaW.PrintWords Go.Proofs.YtnofkbbcbpjhfaaW.PrintLast Go.Proofs.YtnofkbbcbpjhfaaW.PrintMore
attribute [local go_sem] max2_int min2_int max_two min_two max_three min_three max_four min_four
set_option linter.unusedVariables false
set_option linter.unusedSimpArgs false
def impl_CoverImage.f (a0_0 : Int) (a0_1 : Int) (a0_2 : Int) (l0_3 : List Int) (a1_0 : Int) (a1_1 : Int) (a1_2 : Int) (l1_3 : List Int) (a1_4 : Int) (a1_5 : Int) (a1_6 : Int) (a1_7 : Int) (a1_8 : Bool) : Option (Int × Int × Int × List Int × Bool) := (impl_isImage.f a0_0 a0_1 a0_2 l0_3).bind fun t50004 => (if t50004 = true then ((impl_isLayer.f a1_0 a1_1 a1_2 l1_3 a1_4 a1_5 a1_6 a1_7 a1_8 a0_2).bind fun t50005 => (if t50005 = true then ((impl_coverImage.f a0_0 a0_1 a0_2 l0_3 a1_0 a1_1 a1_2 l1_3 a1_4 a1_5 a1_6 a1_7 a1_8).bind fun bt50006 => (some (bt50006.1, bt50006.2.1, bt50006.2.2.1, bt50006.2.2.2, true))) else (some (0, 0, 0, ([] : List Int), false)))) else (some (0, 0, 0, ([] : List Int), false)))
set_option maxHeartbeats 8000000 in
set_option maxRecDepth 100000 in
theorem impl_CoverImage.calls (a0_0 : Int) (a0_1 : Int) (a0_2 : Int) (A0_3 : Option Addr) (c0_3 : Nat) (l0_3 : List Int) (a1_0 : Int) (a1_1 : Int) (a1_2 : Int) (A1_3 : Option Addr) (c1_3 : Nat) (l1_3 : List Int) (a1_4 : Int) (a1_5 : Int) (a1_6 : Int) (a1_7 : Int) (a1_8 : Bool) (r1 : Int) (r2 : Int) (r3 : Int) (r4 : List Int) (r5 : Bool) (w : World) (hr0_3 : Kd.C (Kd.int .i64) w A0_3 l0_3.length l0_3) (hc0_3 : l0_3.length ≤ c0_3) (hr1_3 : Kd.C (Kd.int .i64) w A1_3 l1_3.length l1_3) (hc1_3 : l1_3.length ≤ c1_3) (h : impl_CoverImage.f a0_0 a0_1 a0_2 l0_3 a1_0 a1_1 a1_2 l1_3 a1_4 a1_5 a1_6 a1_7 a1_8 = some (r1, r2, r3, r4, r5)) :
    Calls Try.prog 49 #[.agg #[.int .i64 a0_0, .int .i64 a0_1, .int .i64 a0_2, .slice A0_3 l0_3.length c0_3], .agg #[.int .i64 a1_0, .int .i64 a1_1, .int .i64 a1_2, .slice A1_3 l1_3.length c1_3, .int .i64 a1_4, .int .i64 a1_5, .int .i64 a1_6, .int .i64 a1_7, .bool a1_8]] w fun e w' => ∃ v3_ : Value, e = .returned (.tuple #[.agg #[.int .i64 r1, .int .i64 r2, .int .i64 r3, v3_], .bool r5]) ∧ Kd.R (Kd.int .i64) 3 w' w.heap.size (fun _ => True) v3_ r4 ∧ Below w.heap.size w w' := by
  have hu27 := Try.underlying27
  have hu55 := Try.underlying55
  have HR0_3 := Aside0.mk hr0_3
  have HC0_3 := Aside0.mk hc0_3
  clear hr0_3 hc0_3
  have HR1_3 := Aside0.mk hr1_3
  have HC1_3 := Aside0.mk hc1_3
  clear hr1_3 hc1_3
  have HB := Aside0.mk (Below.refl w.heap.size w)
  have H : ((impl_isImage.f a0_0 a0_1 a0_2 l0_3).bind fun t50004 => (if t50004 = true then ((impl_isLayer.f a1_0 a1_1 a1_2 l1_3 a1_4 a1_5 a1_6 a1_7 a1_8 a0_2).bind fun t50005 => (if t50005 = true then ((impl_coverImage.f a0_0 a0_1 a0_2 l0_3 a1_0 a1_1 a1_2 l1_3 a1_4 a1_5 a1_6 a1_7 a1_8).bind fun bt50006 => (some (bt50006.1, bt50006.2.1, bt50006.2.2.1, bt50006.2.2.2, true))) else (some (0, 0, 0, ([] : List Int), false)))) else (some (0, 0, 0, ([] : List Int), false)))) = some (r1, r2, r3, r4, r5) := h
  clear h
  replace H := Option.bind_eq_some_iff.mp H
  obtain ⟨t50004, A30, H⟩ := H
  replace H : (if t50004 = true then ((impl_isLayer.f a1_0 a1_1 a1_2 l1_3 a1_4 a1_5 a1_6 a1_7 a1_8 a0_2).bind fun t50005 => (if t50005 = true then ((impl_coverImage.f a0_0 a0_1 a0_2 l0_3 a1_0 a1_1 a1_2 l1_3 a1_4 a1_5 a1_6 a1_7 a1_8).bind fun bt50006 => (some (bt50006.1, bt50006.2.1, bt50006.2.2.1, bt50006.2.2.2, true))) else (some (0, 0, 0, ([] : List Int), false)))) else (some (0, 0, 0, ([] : List Int), false))) = some (r1, r2, r3, r4, r5) := H
  have A3 := Aside0.mk A30
  clear A30
  by_cases c4 : t50004 = true
  · subst c4
    have H1 : ((impl_isLayer.f a1_0 a1_1 a1_2 l1_3 a1_4 a1_5 a1_6 a1_7 a1_8 a0_2).bind fun t50005 => (if t50005 = true then ((impl_coverImage.f a0_0 a0_1 a0_2 l0_3 a1_0 a1_1 a1_2 l1_3 a1_4 a1_5 a1_6 a1_7 a1_8).bind fun bt50006 => (some (bt50006.1, bt50006.2.1, bt50006.2.2.1, bt50006.2.2.2, true))) else (some (0, 0, 0, ([] : List Int), false)))) = some (r1, r2, r3, r4, r5) := by rw [if_pos rfl] at H; exact H
    clear H
    have H := H1
    clear H1
    replace H := Option.bind_eq_some_iff.mp H
    obtain ⟨t50005, A50, H⟩ := H
    replace H : (if t50005 = true then ((impl_coverImage.f a0_0 a0_1 a0_2 l0_3 a1_0 a1_1 a1_2 l1_3 a1_4 a1_5 a1_6 a1_7 a1_8).bind fun bt50006 => (some (bt50006.1, bt50006.2.1, bt50006.2.2.1, bt50006.2.2.2, true))) else (some (0, 0, 0, ([] : List Int), false))) = some (r1, r2, r3, r4, r5) := H
    have A5 := Aside0.mk A50
    clear A50
    by_cases c6 : t50005 = true
    · subst c6
      have H1 : ((impl_coverImage.f a0_0 a0_1 a0_2 l0_3 a1_0 a1_1 a1_2 l1_3 a1_4 a1_5 a1_6 a1_7 a1_8).bind fun bt50006 => (some (bt50006.1, bt50006.2.1, bt50006.2.2.1, bt50006.2.2.2, true))) = some (r1, r2, r3, r4, r5) := by rw [if_pos rfl] at H; exact H
      clear H
      have H := H1
      clear H1
      replace H := Option.bind_eq_some_iff.mp H
      obtain ⟨⟨t50006, t50007, t50008, t50009⟩, A70, H⟩ := H
      replace H : (some (t50006, t50007, t50008, t50009, true)) = some (r1, r2, r3, r4, r5) := H
      have A7 := Aside0.mk A70
      clear A70
      simp only [Option.some.injEq, Prod.mk.injEq] at H
      obtain ⟨rfl, rfl, rfl, rfl, rfl⟩ := H
      go_enter Try.func49, Try.ntmps49
      go_wp2_with (first | ((with_reducible refine gate_dst (N := 2) rfl ?_); refine box_event ?hg (N := 2) ?hd (cs := #[.int .i64 a0_0, .int .i64 a0_1, .int .i64 a0_2, .slice A0_3 l0_3.length c0_3]) (t := 27) ?hr ?_; (case hd => rfl); (case hg => rfl); (case hr => (go_simp; done)); intro gb50001 hg w8 hbox hb; have n0_ := Aside0.mk (below_step HB.out hb); have n1_ := Aside0.mk (hbox); have n2_ := Aside0.mk ((by rw [hg]; exact (below_size HB.out) : w.heap.size ≤ gb50001)); have n3_ := Aside0.mk ((by rw [hg]; exact (below_size HB.out) : w.heap.size ≤ gb50001)); clear HB; have HB := n0_; have BK50001 := n1_; have GW50001 := n2_; have GE50001 := n3_; clear n0_ n1_ n2_ n3_; clear hb hbox hg) | ((with_reducible refine gate_dst (N := 3) rfl ?_); refine box_event ?hg (N := 3) ?hd (cs := #[.int .i64 a1_0, .int .i64 a1_1, .int .i64 a1_2, .slice A1_3 l1_3.length c1_3, .int .i64 a1_4, .int .i64 a1_5, .int .i64 a1_6, .int .i64 a1_7, .bool a1_8]) (t := 55) ?hr ?_; (case hd => rfl); (case hg => rfl); (case hr => (go_simp; done)); intro gb50002 hg w9 hbox hb; have n0_ := Aside0.mk (blk_below BK50001.out hb); have n1_ := Aside0.mk (below_step HB.out hb); have n2_ := Aside0.mk (hbox); have n3_ := Aside0.mk ((by rw [hg]; exact (below_size HB.out) : w.heap.size ≤ gb50002)); have n4_ := Aside0.mk ((by rw [hg]; exact (below_size HB.out) : w.heap.size ≤ gb50002)); have n5_ := Aside0.mk ((by rw [hg]; exact Nat.ne_of_lt (blk_lt BK50001.out) : gb50001 ≠ gb50002)); have n6_ := Aside0.mk ((by rw [hg]; exact Nat.ne_of_gt (blk_lt BK50001.out) : gb50002 ≠ gb50001)); clear BK50001; clear HB; have BK50001 := n0_; have HB := n1_; have BK50002 := n2_; have GW50002 := n3_; have GE50002 := n4_; have NB50001_50002 := n5_; have NB50002_50001 := n6_; clear n0_ n1_ n2_ n3_ n4_ n5_ n6_; clear hb hbox hg) | ((with_reducible refine gate_dst (N := 4) rfl ?_); refine box_event ?hg (N := 4) ?hd (cs := #[.int .i64 0, .int .i64 0, .int .i64 0, .slice none 0 0]) (t := 27) ?hr ?_; (case hd => rfl); (case hg => rfl); (case hr => (go_simp; done)); intro gb50003 hg w10 hbox hb; have n0_ := Aside0.mk (blk_below BK50001.out hb); have n1_ := Aside0.mk (blk_below BK50002.out hb); have n2_ := Aside0.mk (below_step HB.out hb); have n3_ := Aside0.mk (hbox); have n4_ := Aside0.mk ((by rw [hg]; exact (below_size HB.out) : w.heap.size ≤ gb50003)); have n5_ := Aside0.mk ((by rw [hg]; exact (below_size HB.out) : w.heap.size ≤ gb50003)); have n6_ := Aside0.mk ((by rw [hg]; exact Nat.ne_of_lt (blk_lt BK50001.out) : gb50001 ≠ gb50003)); have n7_ := Aside0.mk ((by rw [hg]; exact Nat.ne_of_gt (blk_lt BK50001.out) : gb50003 ≠ gb50001)); have n8_ := Aside0.mk ((by rw [hg]; exact Nat.ne_of_lt (blk_lt BK50002.out) : gb50002 ≠ gb50003)); have n9_ := Aside0.mk ((by rw [hg]; exact Nat.ne_of_gt (blk_lt BK50002.out) : gb50003 ≠ gb50002)); clear BK50001; clear BK50002; clear HB; have BK50001 := n0_; have BK50002 := n1_; have HB := n2_; have BK50003 := n3_; have GW50003 := n4_; have GE50003 := n5_; have NB50001_50003 := n6_; have NB50003_50001 := n7_; have NB50002_50003 := n8_; have NB50003_50002 := n9_; clear n0_ n1_ n2_ n3_ n4_ n5_ n6_ n7_ n8_ n9_; clear hb hbox hg; have hnb11 := NB50001_50002.out; have hnc11 := NB50002_50001.out; have hnb12 := NB50001_50003.out; have hnc12 := NB50003_50001.out; have hcz13_0 : w10.cell? ⟨gb50001, 0, none⟩ = some (.int .i64 a0_0) := (blk_cell BK50001.out 0).trans rfl; have hcz13_1 : w10.cell? ⟨gb50001, 1, none⟩ = some (.int .i64 a0_1) := (blk_cell BK50001.out 1).trans rfl; have hcz13_2 : w10.cell? ⟨gb50001, 2, none⟩ = some (.int .i64 a0_2) := (blk_cell BK50001.out 2).trans rfl; have hcz13_3 : w10.cell? ⟨gb50001, 3, none⟩ = some (.slice A0_3 l0_3.length c0_3) := (blk_cell BK50001.out 3).trans rfl; have hfz13_0 := blk_frozen BK50001.out 0; have hfz13_1 := blk_frozen BK50001.out 1; have hfz13_2 := blk_frozen BK50001.out 2; have hfz13_3 := blk_frozen BK50001.out 3) | ((with_reducible refine gate_callee (f := 83) rfl ?_); refine goesL_ (some 7) rfl rfl Try.func83 (by kernel_rfl) rfl #[.agg #[.int .i64 a0_0, .int .i64 a0_1, .int .i64 a0_2, .slice A0_3 l0_3.length c0_3]] rfl (by (try simp only [List.map_toArray, List.map_cons, List.map_nil]); rfl) ?_; (with_reducible refine (impl_isImage.calls a0_0 a0_1 a0_2 _ _ l0_3 true _ ?side1 ?side2 A3.out).mono ?_); (case side1 => repeat (exact (Kd.C_below HR0_3.out HB.out))); (case side2 => exact HC0_3.out); rintro e w14 ⟨rfl, hb⟩; refine ⟨_, rfl, ?_⟩; have n0_ := Aside0.mk (blk_below BK50001.out hb); have n1_ := Aside0.mk (blk_below BK50002.out hb); have n2_ := Aside0.mk (blk_below BK50003.out hb); have n3_ := Aside0.mk (below_step HB.out hb); clear BK50001; clear BK50002; clear BK50003; clear HB; have BK50001 := n0_; have BK50002 := n1_; have BK50003 := n2_; have HB := n3_; clear n0_ n1_ n2_ n3_; (try clear hb); have hnb15 := NB50002_50003.out; have hnc15 := NB50003_50002.out; have hcz16_0 : w14.cell? ⟨gb50002, 0, none⟩ = some (.int .i64 a1_0) := (blk_cell BK50002.out 0).trans rfl; have hcz16_1 : w14.cell? ⟨gb50002, 1, none⟩ = some (.int .i64 a1_1) := (blk_cell BK50002.out 1).trans rfl; have hcz16_2 : w14.cell? ⟨gb50002, 2, none⟩ = some (.int .i64 a1_2) := (blk_cell BK50002.out 2).trans rfl; have hcz16_3 : w14.cell? ⟨gb50002, 3, none⟩ = some (.slice A1_3 l1_3.length c1_3) := (blk_cell BK50002.out 3).trans rfl; have hcz16_4 : w14.cell? ⟨gb50002, 4, none⟩ = some (.int .i64 a1_4) := (blk_cell BK50002.out 4).trans rfl; have hcz16_5 : w14.cell? ⟨gb50002, 5, none⟩ = some (.int .i64 a1_5) := (blk_cell BK50002.out 5).trans rfl; have hcz16_6 : w14.cell? ⟨gb50002, 6, none⟩ = some (.int .i64 a1_6) := (blk_cell BK50002.out 6).trans rfl; have hcz16_7 : w14.cell? ⟨gb50002, 7, none⟩ = some (.int .i64 a1_7) := (blk_cell BK50002.out 7).trans rfl; have hcz16_8 : w14.cell? ⟨gb50002, 8, none⟩ = some (.bool a1_8) := (blk_cell BK50002.out 8).trans rfl; have hfz16_0 := blk_frozen BK50002.out 0; have hfz16_1 := blk_frozen BK50002.out 1; have hfz16_2 := blk_frozen BK50002.out 2; have hfz16_3 := blk_frozen BK50002.out 3; have hfz16_4 := blk_frozen BK50002.out 4; have hfz16_5 := blk_frozen BK50002.out 5; have hfz16_6 := blk_frozen BK50002.out 6; have hfz16_7 := blk_frozen BK50002.out 7; have hfz16_8 := blk_frozen BK50002.out 8; have hcz17_0 : w14.cell? ⟨gb50001, 0, none⟩ = some (.int .i64 a0_0) := (blk_cell BK50001.out 0).trans rfl; have hcz17_1 : w14.cell? ⟨gb50001, 1, none⟩ = some (.int .i64 a0_1) := (blk_cell BK50001.out 1).trans rfl; have hcz17_2 : w14.cell? ⟨gb50001, 2, none⟩ = some (.int .i64 a0_2) := (blk_cell BK50001.out 2).trans rfl; have hcz17_3 : w14.cell? ⟨gb50001, 3, none⟩ = some (.slice A0_3 l0_3.length c0_3) := (blk_cell BK50001.out 3).trans rfl; have hfz17_0 := blk_frozen BK50001.out 0; have hfz17_1 := blk_frozen BK50001.out 1; have hfz17_2 := blk_frozen BK50001.out 2; have hfz17_3 := blk_frozen BK50001.out 3) | (go_at_call 103; (with_reducible refine (impl_isLayer.calls a1_0 a1_1 a1_2 _ _ l1_3 a1_4 a1_5 a1_6 a1_7 a1_8 a0_2 true _ ?side1 ?side2 A5.out).mono ?_); (case side1 => repeat (exact (Kd.C_below HR1_3.out HB.out))); (case side2 => exact HC1_3.out); rintro e w18 ⟨rfl, hb⟩; have n0_ := Aside0.mk (blk_below BK50001.out hb); have n1_ := Aside0.mk (blk_below BK50002.out hb); have n2_ := Aside0.mk (blk_below BK50003.out hb); have n3_ := Aside0.mk (below_step HB.out hb); clear BK50001; clear BK50002; clear BK50003; clear HB; have BK50001 := n0_; have BK50002 := n1_; have BK50003 := n2_; have HB := n3_; clear n0_ n1_ n2_ n3_; (try clear hb); have hcz19_0 : w18.cell? ⟨gb50001, 0, none⟩ = some (.int .i64 a0_0) := (blk_cell BK50001.out 0).trans rfl; have hcz19_1 : w18.cell? ⟨gb50001, 1, none⟩ = some (.int .i64 a0_1) := (blk_cell BK50001.out 1).trans rfl; have hcz19_2 : w18.cell? ⟨gb50001, 2, none⟩ = some (.int .i64 a0_2) := (blk_cell BK50001.out 2).trans rfl; have hcz19_3 : w18.cell? ⟨gb50001, 3, none⟩ = some (.slice A0_3 l0_3.length c0_3) := (blk_cell BK50001.out 3).trans rfl; have hfz19_0 := blk_frozen BK50001.out 0; have hfz19_1 := blk_frozen BK50001.out 1; have hfz19_2 := blk_frozen BK50001.out 2; have hfz19_3 := blk_frozen BK50001.out 3; have hcz20_0 : w18.cell? ⟨gb50002, 0, none⟩ = some (.int .i64 a1_0) := (blk_cell BK50002.out 0).trans rfl; have hcz20_1 : w18.cell? ⟨gb50002, 1, none⟩ = some (.int .i64 a1_1) := (blk_cell BK50002.out 1).trans rfl; have hcz20_2 : w18.cell? ⟨gb50002, 2, none⟩ = some (.int .i64 a1_2) := (blk_cell BK50002.out 2).trans rfl; have hcz20_3 : w18.cell? ⟨gb50002, 3, none⟩ = some (.slice A1_3 l1_3.length c1_3) := (blk_cell BK50002.out 3).trans rfl; have hcz20_4 : w18.cell? ⟨gb50002, 4, none⟩ = some (.int .i64 a1_4) := (blk_cell BK50002.out 4).trans rfl; have hcz20_5 : w18.cell? ⟨gb50002, 5, none⟩ = some (.int .i64 a1_5) := (blk_cell BK50002.out 5).trans rfl; have hcz20_6 : w18.cell? ⟨gb50002, 6, none⟩ = some (.int .i64 a1_6) := (blk_cell BK50002.out 6).trans rfl; have hcz20_7 : w18.cell? ⟨gb50002, 7, none⟩ = some (.int .i64 a1_7) := (blk_cell BK50002.out 7).trans rfl; have hcz20_8 : w18.cell? ⟨gb50002, 8, none⟩ = some (.bool a1_8) := (blk_cell BK50002.out 8).trans rfl; have hfz20_0 := blk_frozen BK50002.out 0; have hfz20_1 := blk_frozen BK50002.out 1; have hfz20_2 := blk_frozen BK50002.out 2; have hfz20_3 := blk_frozen BK50002.out 3; have hfz20_4 := blk_frozen BK50002.out 4; have hfz20_5 := blk_frozen BK50002.out 5; have hfz20_6 := blk_frozen BK50002.out 6; have hfz20_7 := blk_frozen BK50002.out 7; have hfz20_8 := blk_frozen BK50002.out 8) | ((with_reducible refine gate_callee (f := 105) rfl ?_); refine goesL_ (some 19) rfl rfl Try.func105 (by kernel_rfl) rfl #[.agg #[.int .i64 a0_0, .int .i64 a0_1, .int .i64 a0_2, .slice A0_3 l0_3.length c0_3], .agg #[.int .i64 a1_0, .int .i64 a1_1, .int .i64 a1_2, .slice A1_3 l1_3.length c1_3, .int .i64 a1_4, .int .i64 a1_5, .int .i64 a1_6, .int .i64 a1_7, .bool a1_8]] rfl (by (try simp only [List.map_toArray, List.map_cons, List.map_nil]); rfl) ?_; (with_reducible refine (impl_coverImage.calls a0_0 a0_1 a0_2 _ _ l0_3 a1_0 a1_1 a1_2 _ _ l1_3 a1_4 a1_5 a1_6 a1_7 a1_8 t50006 t50007 t50008 t50009 _ ?side1 ?side2 ?side3 ?side4 A7.out).mono ?_); (case side1 => repeat (exact (Kd.C_below HR0_3.out HB.out))); (case side2 => exact HC0_3.out); (case side3 => repeat (exact (Kd.C_below HR1_3.out HB.out))); (case side4 => exact HC1_3.out); rintro e w21 ⟨v50010, rfl, ho0, hb⟩; refine ⟨_, rfl, ?_⟩; have n0_ := Aside0.mk (Kd.R_lower ho0 (below_size HB.out)); have n1_ := Aside0.mk (blk_below BK50001.out hb); have n2_ := Aside0.mk (blk_below BK50002.out hb); have n3_ := Aside0.mk (blk_below BK50003.out hb); have n4_ := Aside0.mk (below_step HB.out hb); clear BK50001; clear BK50002; clear BK50003; clear HB; have HO50011 := n0_; have BK50001 := n1_; have BK50002 := n2_; have BK50003 := n3_; have HB := n4_; clear n0_ n1_ n2_ n3_ n4_; (try clear hb); (try clear ho0); have hcz22_0 : w21.cell? ⟨gb50003, 0, none⟩ = some (.int .i64 0) := (blk_cell BK50003.out 0).trans rfl; have hcz22_1 : w21.cell? ⟨gb50003, 1, none⟩ = some (.int .i64 0) := (blk_cell BK50003.out 1).trans rfl; have hcz22_2 : w21.cell? ⟨gb50003, 2, none⟩ = some (.int .i64 0) := (blk_cell BK50003.out 2).trans rfl; have hcz22_3 : w21.cell? ⟨gb50003, 3, none⟩ = some (.slice none 0 0) := (blk_cell BK50003.out 3).trans rfl; have hfz22_0 := blk_frozen BK50003.out 0; have hfz22_1 := blk_frozen BK50003.out 1; have hfz22_2 := blk_frozen BK50003.out 2; have hfz22_3 := blk_frozen BK50003.out 3; obtain ⟨Ao23, co23, eo23⟩ := Kd.R_slice HO50011.out; subst eo23))
      refine bodyPost_ret (results_ct rfl _ _ gb50003 27 #[.int .i64 t50006, .int .i64 t50007, .int .i64 t50008, .slice Ao23 t50009.length co23] (0, 0) _ rfl (by refine blk_put (cs := #[.int .i64 t50006, .int .i64 t50007, .int .i64 t50008, .slice none 0 0]) ?_ 3 _ rfl; (with_reducible repeat (first | refine blk_drewN ?_ _ | refine blk_drew ?_ | refine blk_alloc ?_ _)); refine blk_put (cs := #[.int .i64 t50006, .int .i64 t50007, .int .i64 0, .slice none 0 0]) ?_ 2 _ rfl; (with_reducible repeat (first | refine blk_drewN ?_ _ | refine blk_drew ?_ | refine blk_alloc ?_ _)); refine blk_put (cs := #[.int .i64 t50006, .int .i64 0, .int .i64 0, .slice none 0 0]) ?_ 1 _ rfl; (with_reducible repeat (first | refine blk_drewN ?_ _ | refine blk_drew ?_ | refine blk_alloc ?_ _)); refine blk_put (cs := #[.int .i64 0, .int .i64 0, .int .i64 0, .slice none 0 0]) ?_ 0 _ rfl; (with_reducible repeat (first | refine blk_drewN ?_ _ | refine blk_drew ?_ | refine blk_alloc ?_ _)); exact BK50003.out) Try.underlying27 rfl (by kernel_rfl)) rfl ?_
      exact ⟨_, by rfl, by (with_reducible repeat (first | apply Kd.R_alloc | apply Kd.R_drewN | apply Kd.R_drew)); exact Kd.R_mono (Kd.R_far (p := ⟨gb50003, 3, none⟩) (Kd.R_far (p := ⟨gb50003, 2, none⟩) (Kd.R_far (p := ⟨gb50003, 1, none⟩) (Kd.R_far (p := ⟨gb50003, 0, none⟩) (Kd.R_types HO50011.out BK50003.out (by decide)) (fun _ hk => hk.2) (.int .i64 t50006)) (fun _ hk => hk.2) (.int .i64 t50007)) (fun _ hk => hk.2) (.int .i64 t50008)) (fun _ hk => hk.2) (.slice Ao23 t50009.length co23)) (fun _ hk => trivial), by repeat (with_reducible first | exact HB.out | refine below_set ?_ GE50003.out)⟩
    · replace c6 := Bool.eq_false_iff.mpr c6
      subst c6
      have H1 : (some (0, 0, 0, ([] : List Int), false)) = some (r1, r2, r3, r4, r5) := by rw [if_neg (show ¬ (false = true) by decide)] at H; exact H
      clear H
      have H := H1
      clear H1
      simp only [Option.some.injEq, Prod.mk.injEq] at H
      obtain ⟨rfl, rfl, rfl, rfl, rfl⟩ := H
      go_enter Try.func49, Try.ntmps49
      go_wp2_with (first | ((with_reducible refine gate_dst (N := 2) rfl ?_); refine box_event ?hg (N := 2) ?hd (cs := #[.int .i64 a0_0, .int .i64 a0_1, .int .i64 a0_2, .slice A0_3 l0_3.length c0_3]) (t := 27) ?hr ?_; (case hd => rfl); (case hg => rfl); (case hr => (go_simp; done)); intro gb50001 hg w24 hbox hb; have n0_ := Aside0.mk (below_step HB.out hb); have n1_ := Aside0.mk (hbox); have n2_ := Aside0.mk ((by rw [hg]; exact (below_size HB.out) : w.heap.size ≤ gb50001)); have n3_ := Aside0.mk ((by rw [hg]; exact (below_size HB.out) : w.heap.size ≤ gb50001)); clear HB; have HB := n0_; have BK50001 := n1_; have GW50001 := n2_; have GE50001 := n3_; clear n0_ n1_ n2_ n3_; clear hb hbox hg) | ((with_reducible refine gate_dst (N := 3) rfl ?_); refine box_event ?hg (N := 3) ?hd (cs := #[.int .i64 a1_0, .int .i64 a1_1, .int .i64 a1_2, .slice A1_3 l1_3.length c1_3, .int .i64 a1_4, .int .i64 a1_5, .int .i64 a1_6, .int .i64 a1_7, .bool a1_8]) (t := 55) ?hr ?_; (case hd => rfl); (case hg => rfl); (case hr => (go_simp; done)); intro gb50002 hg w25 hbox hb; have n0_ := Aside0.mk (blk_below BK50001.out hb); have n1_ := Aside0.mk (below_step HB.out hb); have n2_ := Aside0.mk (hbox); have n3_ := Aside0.mk ((by rw [hg]; exact (below_size HB.out) : w.heap.size ≤ gb50002)); have n4_ := Aside0.mk ((by rw [hg]; exact (below_size HB.out) : w.heap.size ≤ gb50002)); have n5_ := Aside0.mk ((by rw [hg]; exact Nat.ne_of_lt (blk_lt BK50001.out) : gb50001 ≠ gb50002)); have n6_ := Aside0.mk ((by rw [hg]; exact Nat.ne_of_gt (blk_lt BK50001.out) : gb50002 ≠ gb50001)); clear BK50001; clear HB; have BK50001 := n0_; have HB := n1_; have BK50002 := n2_; have GW50002 := n3_; have GE50002 := n4_; have NB50001_50002 := n5_; have NB50002_50001 := n6_; clear n0_ n1_ n2_ n3_ n4_ n5_ n6_; clear hb hbox hg) | ((with_reducible refine gate_dst (N := 4) rfl ?_); refine box_event ?hg (N := 4) ?hd (cs := #[.int .i64 0, .int .i64 0, .int .i64 0, .slice none 0 0]) (t := 27) ?hr ?_; (case hd => rfl); (case hg => rfl); (case hr => (go_simp; done)); intro gb50003 hg w26 hbox hb; have n0_ := Aside0.mk (blk_below BK50001.out hb); have n1_ := Aside0.mk (blk_below BK50002.out hb); have n2_ := Aside0.mk (below_step HB.out hb); have n3_ := Aside0.mk (hbox); have n4_ := Aside0.mk ((by rw [hg]; exact (below_size HB.out) : w.heap.size ≤ gb50003)); have n5_ := Aside0.mk ((by rw [hg]; exact (below_size HB.out) : w.heap.size ≤ gb50003)); have n6_ := Aside0.mk ((by rw [hg]; exact Nat.ne_of_lt (blk_lt BK50001.out) : gb50001 ≠ gb50003)); have n7_ := Aside0.mk ((by rw [hg]; exact Nat.ne_of_gt (blk_lt BK50001.out) : gb50003 ≠ gb50001)); have n8_ := Aside0.mk ((by rw [hg]; exact Nat.ne_of_lt (blk_lt BK50002.out) : gb50002 ≠ gb50003)); have n9_ := Aside0.mk ((by rw [hg]; exact Nat.ne_of_gt (blk_lt BK50002.out) : gb50003 ≠ gb50002)); clear BK50001; clear BK50002; clear HB; have BK50001 := n0_; have BK50002 := n1_; have HB := n2_; have BK50003 := n3_; have GW50003 := n4_; have GE50003 := n5_; have NB50001_50003 := n6_; have NB50003_50001 := n7_; have NB50002_50003 := n8_; have NB50003_50002 := n9_; clear n0_ n1_ n2_ n3_ n4_ n5_ n6_ n7_ n8_ n9_; clear hb hbox hg; have hnb27 := NB50001_50002.out; have hnc27 := NB50002_50001.out; have hnb28 := NB50001_50003.out; have hnc28 := NB50003_50001.out; have hcz29_0 : w26.cell? ⟨gb50001, 0, none⟩ = some (.int .i64 a0_0) := (blk_cell BK50001.out 0).trans rfl; have hcz29_1 : w26.cell? ⟨gb50001, 1, none⟩ = some (.int .i64 a0_1) := (blk_cell BK50001.out 1).trans rfl; have hcz29_2 : w26.cell? ⟨gb50001, 2, none⟩ = some (.int .i64 a0_2) := (blk_cell BK50001.out 2).trans rfl; have hcz29_3 : w26.cell? ⟨gb50001, 3, none⟩ = some (.slice A0_3 l0_3.length c0_3) := (blk_cell BK50001.out 3).trans rfl; have hfz29_0 := blk_frozen BK50001.out 0; have hfz29_1 := blk_frozen BK50001.out 1; have hfz29_2 := blk_frozen BK50001.out 2; have hfz29_3 := blk_frozen BK50001.out 3) | ((with_reducible refine gate_callee (f := 83) rfl ?_); refine goesL_ (some 7) rfl rfl Try.func83 (by kernel_rfl) rfl #[.agg #[.int .i64 a0_0, .int .i64 a0_1, .int .i64 a0_2, .slice A0_3 l0_3.length c0_3]] rfl (by (try simp only [List.map_toArray, List.map_cons, List.map_nil]); rfl) ?_; (with_reducible refine (impl_isImage.calls a0_0 a0_1 a0_2 _ _ l0_3 true _ ?side1 ?side2 A3.out).mono ?_); (case side1 => repeat (exact (Kd.C_below HR0_3.out HB.out))); (case side2 => exact HC0_3.out); rintro e w30 ⟨rfl, hb⟩; refine ⟨_, rfl, ?_⟩; have n0_ := Aside0.mk (blk_below BK50001.out hb); have n1_ := Aside0.mk (blk_below BK50002.out hb); have n2_ := Aside0.mk (blk_below BK50003.out hb); have n3_ := Aside0.mk (below_step HB.out hb); clear BK50001; clear BK50002; clear BK50003; clear HB; have BK50001 := n0_; have BK50002 := n1_; have BK50003 := n2_; have HB := n3_; clear n0_ n1_ n2_ n3_; (try clear hb); have hnb31 := NB50002_50003.out; have hnc31 := NB50003_50002.out; have hcz32_0 : w30.cell? ⟨gb50002, 0, none⟩ = some (.int .i64 a1_0) := (blk_cell BK50002.out 0).trans rfl; have hcz32_1 : w30.cell? ⟨gb50002, 1, none⟩ = some (.int .i64 a1_1) := (blk_cell BK50002.out 1).trans rfl; have hcz32_2 : w30.cell? ⟨gb50002, 2, none⟩ = some (.int .i64 a1_2) := (blk_cell BK50002.out 2).trans rfl; have hcz32_3 : w30.cell? ⟨gb50002, 3, none⟩ = some (.slice A1_3 l1_3.length c1_3) := (blk_cell BK50002.out 3).trans rfl; have hcz32_4 : w30.cell? ⟨gb50002, 4, none⟩ = some (.int .i64 a1_4) := (blk_cell BK50002.out 4).trans rfl; have hcz32_5 : w30.cell? ⟨gb50002, 5, none⟩ = some (.int .i64 a1_5) := (blk_cell BK50002.out 5).trans rfl; have hcz32_6 : w30.cell? ⟨gb50002, 6, none⟩ = some (.int .i64 a1_6) := (blk_cell BK50002.out 6).trans rfl; have hcz32_7 : w30.cell? ⟨gb50002, 7, none⟩ = some (.int .i64 a1_7) := (blk_cell BK50002.out 7).trans rfl; have hcz32_8 : w30.cell? ⟨gb50002, 8, none⟩ = some (.bool a1_8) := (blk_cell BK50002.out 8).trans rfl; have hfz32_0 := blk_frozen BK50002.out 0; have hfz32_1 := blk_frozen BK50002.out 1; have hfz32_2 := blk_frozen BK50002.out 2; have hfz32_3 := blk_frozen BK50002.out 3; have hfz32_4 := blk_frozen BK50002.out 4; have hfz32_5 := blk_frozen BK50002.out 5; have hfz32_6 := blk_frozen BK50002.out 6; have hfz32_7 := blk_frozen BK50002.out 7; have hfz32_8 := blk_frozen BK50002.out 8; have hcz33_0 : w30.cell? ⟨gb50001, 0, none⟩ = some (.int .i64 a0_0) := (blk_cell BK50001.out 0).trans rfl; have hcz33_1 : w30.cell? ⟨gb50001, 1, none⟩ = some (.int .i64 a0_1) := (blk_cell BK50001.out 1).trans rfl; have hcz33_2 : w30.cell? ⟨gb50001, 2, none⟩ = some (.int .i64 a0_2) := (blk_cell BK50001.out 2).trans rfl; have hcz33_3 : w30.cell? ⟨gb50001, 3, none⟩ = some (.slice A0_3 l0_3.length c0_3) := (blk_cell BK50001.out 3).trans rfl; have hfz33_0 := blk_frozen BK50001.out 0; have hfz33_1 := blk_frozen BK50001.out 1; have hfz33_2 := blk_frozen BK50001.out 2; have hfz33_3 := blk_frozen BK50001.out 3) | (go_at_call 103; (with_reducible refine (impl_isLayer.calls a1_0 a1_1 a1_2 _ _ l1_3 a1_4 a1_5 a1_6 a1_7 a1_8 a0_2 false _ ?side1 ?side2 A5.out).mono ?_); (case side1 => repeat (exact (Kd.C_below HR1_3.out HB.out))); (case side2 => exact HC1_3.out); rintro e w34 ⟨rfl, hb⟩; have n0_ := Aside0.mk (blk_below BK50001.out hb); have n1_ := Aside0.mk (blk_below BK50002.out hb); have n2_ := Aside0.mk (blk_below BK50003.out hb); have n3_ := Aside0.mk (below_step HB.out hb); clear BK50001; clear BK50002; clear BK50003; clear HB; have BK50001 := n0_; have BK50002 := n1_; have BK50003 := n2_; have HB := n3_; clear n0_ n1_ n2_ n3_; (try clear hb); have hcz35_0 : w34.cell? ⟨gb50003, 0, none⟩ = some (.int .i64 0) := (blk_cell BK50003.out 0).trans rfl; have hcz35_1 : w34.cell? ⟨gb50003, 1, none⟩ = some (.int .i64 0) := (blk_cell BK50003.out 1).trans rfl; have hcz35_2 : w34.cell? ⟨gb50003, 2, none⟩ = some (.int .i64 0) := (blk_cell BK50003.out 2).trans rfl; have hcz35_3 : w34.cell? ⟨gb50003, 3, none⟩ = some (.slice none 0 0) := (blk_cell BK50003.out 3).trans rfl; have hfz35_0 := blk_frozen BK50003.out 0; have hfz35_1 := blk_frozen BK50003.out 1; have hfz35_2 := blk_frozen BK50003.out 2; have hfz35_3 := blk_frozen BK50003.out 3))
      refine bodyPost_ret (results_ct rfl _ _ gb50003 27 #[.int .i64 0, .int .i64 0, .int .i64 0, .slice none 0 0] (0, 0) _ rfl (by refine blk_put (cs := #[.int .i64 0, .int .i64 0, .int .i64 0, .slice none 0 0]) ?_ 3 _ rfl; (with_reducible repeat (first | refine blk_drewN ?_ _ | refine blk_drew ?_ | refine blk_alloc ?_ _)); refine blk_put (cs := #[.int .i64 0, .int .i64 0, .int .i64 0, .slice none 0 0]) ?_ 2 _ rfl; (with_reducible repeat (first | refine blk_drewN ?_ _ | refine blk_drew ?_ | refine blk_alloc ?_ _)); refine blk_put (cs := #[.int .i64 0, .int .i64 0, .int .i64 0, .slice none 0 0]) ?_ 1 _ rfl; (with_reducible repeat (first | refine blk_drewN ?_ _ | refine blk_drew ?_ | refine blk_alloc ?_ _)); refine blk_put (cs := #[.int .i64 0, .int .i64 0, .int .i64 0, .slice none 0 0]) ?_ 0 _ rfl; (with_reducible repeat (first | refine blk_drewN ?_ _ | refine blk_drew ?_ | refine blk_alloc ?_ _)); exact BK50003.out) Try.underlying27 rfl (by kernel_rfl)) rfl ?_
      exact ⟨_, by rfl, by exact Kd.R_nil _ _ _ _ _, by repeat (with_reducible first | exact HB.out | refine below_set ?_ GE50003.out)⟩
  · replace c4 := Bool.eq_false_iff.mpr c4
    subst c4
    have H1 : (some (0, 0, 0, ([] : List Int), false)) = some (r1, r2, r3, r4, r5) := by rw [if_neg (show ¬ (false = true) by decide)] at H; exact H
    clear H
    have H := H1
    clear H1
    simp only [Option.some.injEq, Prod.mk.injEq] at H
    obtain ⟨rfl, rfl, rfl, rfl, rfl⟩ := H
    go_enter Try.func49, Try.ntmps49
    go_wp2_with (first | ((with_reducible refine gate_dst (N := 2) rfl ?_); refine box_event ?hg (N := 2) ?hd (cs := #[.int .i64 a0_0, .int .i64 a0_1, .int .i64 a0_2, .slice A0_3 l0_3.length c0_3]) (t := 27) ?hr ?_; (case hd => rfl); (case hg => rfl); (case hr => (go_simp; done)); intro gb50001 hg w36 hbox hb; have n0_ := Aside0.mk (below_step HB.out hb); have n1_ := Aside0.mk (hbox); have n2_ := Aside0.mk ((by rw [hg]; exact (below_size HB.out) : w.heap.size ≤ gb50001)); have n3_ := Aside0.mk ((by rw [hg]; exact (below_size HB.out) : w.heap.size ≤ gb50001)); clear HB; have HB := n0_; have BK50001 := n1_; have GW50001 := n2_; have GE50001 := n3_; clear n0_ n1_ n2_ n3_; clear hb hbox hg) | ((with_reducible refine gate_dst (N := 3) rfl ?_); refine box_event ?hg (N := 3) ?hd (cs := #[.int .i64 a1_0, .int .i64 a1_1, .int .i64 a1_2, .slice A1_3 l1_3.length c1_3, .int .i64 a1_4, .int .i64 a1_5, .int .i64 a1_6, .int .i64 a1_7, .bool a1_8]) (t := 55) ?hr ?_; (case hd => rfl); (case hg => rfl); (case hr => (go_simp; done)); intro gb50002 hg w37 hbox hb; have n0_ := Aside0.mk (blk_below BK50001.out hb); have n1_ := Aside0.mk (below_step HB.out hb); have n2_ := Aside0.mk (hbox); have n3_ := Aside0.mk ((by rw [hg]; exact (below_size HB.out) : w.heap.size ≤ gb50002)); have n4_ := Aside0.mk ((by rw [hg]; exact (below_size HB.out) : w.heap.size ≤ gb50002)); have n5_ := Aside0.mk ((by rw [hg]; exact Nat.ne_of_lt (blk_lt BK50001.out) : gb50001 ≠ gb50002)); have n6_ := Aside0.mk ((by rw [hg]; exact Nat.ne_of_gt (blk_lt BK50001.out) : gb50002 ≠ gb50001)); clear BK50001; clear HB; have BK50001 := n0_; have HB := n1_; have BK50002 := n2_; have GW50002 := n3_; have GE50002 := n4_; have NB50001_50002 := n5_; have NB50002_50001 := n6_; clear n0_ n1_ n2_ n3_ n4_ n5_ n6_; clear hb hbox hg) | ((with_reducible refine gate_dst (N := 4) rfl ?_); refine box_event ?hg (N := 4) ?hd (cs := #[.int .i64 0, .int .i64 0, .int .i64 0, .slice none 0 0]) (t := 27) ?hr ?_; (case hd => rfl); (case hg => rfl); (case hr => (go_simp; done)); intro gb50003 hg w38 hbox hb; have n0_ := Aside0.mk (blk_below BK50001.out hb); have n1_ := Aside0.mk (blk_below BK50002.out hb); have n2_ := Aside0.mk (below_step HB.out hb); have n3_ := Aside0.mk (hbox); have n4_ := Aside0.mk ((by rw [hg]; exact (below_size HB.out) : w.heap.size ≤ gb50003)); have n5_ := Aside0.mk ((by rw [hg]; exact (below_size HB.out) : w.heap.size ≤ gb50003)); have n6_ := Aside0.mk ((by rw [hg]; exact Nat.ne_of_lt (blk_lt BK50001.out) : gb50001 ≠ gb50003)); have n7_ := Aside0.mk ((by rw [hg]; exact Nat.ne_of_gt (blk_lt BK50001.out) : gb50003 ≠ gb50001)); have n8_ := Aside0.mk ((by rw [hg]; exact Nat.ne_of_lt (blk_lt BK50002.out) : gb50002 ≠ gb50003)); have n9_ := Aside0.mk ((by rw [hg]; exact Nat.ne_of_gt (blk_lt BK50002.out) : gb50003 ≠ gb50002)); clear BK50001; clear BK50002; clear HB; have BK50001 := n0_; have BK50002 := n1_; have HB := n2_; have BK50003 := n3_; have GW50003 := n4_; have GE50003 := n5_; have NB50001_50003 := n6_; have NB50003_50001 := n7_; have NB50002_50003 := n8_; have NB50003_50002 := n9_; clear n0_ n1_ n2_ n3_ n4_ n5_ n6_ n7_ n8_ n9_; clear hb hbox hg; have hnb39 := NB50001_50002.out; have hnc39 := NB50002_50001.out; have hnb40 := NB50001_50003.out; have hnc40 := NB50003_50001.out; have hcz41_0 : w38.cell? ⟨gb50001, 0, none⟩ = some (.int .i64 a0_0) := (blk_cell BK50001.out 0).trans rfl; have hcz41_1 : w38.cell? ⟨gb50001, 1, none⟩ = some (.int .i64 a0_1) := (blk_cell BK50001.out 1).trans rfl; have hcz41_2 : w38.cell? ⟨gb50001, 2, none⟩ = some (.int .i64 a0_2) := (blk_cell BK50001.out 2).trans rfl; have hcz41_3 : w38.cell? ⟨gb50001, 3, none⟩ = some (.slice A0_3 l0_3.length c0_3) := (blk_cell BK50001.out 3).trans rfl; have hfz41_0 := blk_frozen BK50001.out 0; have hfz41_1 := blk_frozen BK50001.out 1; have hfz41_2 := blk_frozen BK50001.out 2; have hfz41_3 := blk_frozen BK50001.out 3) | ((with_reducible refine gate_callee (f := 83) rfl ?_); refine goesL_ (some 7) rfl rfl Try.func83 (by kernel_rfl) rfl #[.agg #[.int .i64 a0_0, .int .i64 a0_1, .int .i64 a0_2, .slice A0_3 l0_3.length c0_3]] rfl (by (try simp only [List.map_toArray, List.map_cons, List.map_nil]); rfl) ?_; (with_reducible refine (impl_isImage.calls a0_0 a0_1 a0_2 _ _ l0_3 false _ ?side1 ?side2 A3.out).mono ?_); (case side1 => repeat (exact (Kd.C_below HR0_3.out HB.out))); (case side2 => exact HC0_3.out); rintro e w42 ⟨rfl, hb⟩; refine ⟨_, rfl, ?_⟩; have n0_ := Aside0.mk (blk_below BK50001.out hb); have n1_ := Aside0.mk (blk_below BK50002.out hb); have n2_ := Aside0.mk (blk_below BK50003.out hb); have n3_ := Aside0.mk (below_step HB.out hb); clear BK50001; clear BK50002; clear BK50003; clear HB; have BK50001 := n0_; have BK50002 := n1_; have BK50003 := n2_; have HB := n3_; clear n0_ n1_ n2_ n3_; (try clear hb); have hnb43 := NB50003_50002.out; have hnc43 := NB50002_50003.out; have hcz44_0 : w42.cell? ⟨gb50003, 0, none⟩ = some (.int .i64 0) := (blk_cell BK50003.out 0).trans rfl; have hcz44_1 : w42.cell? ⟨gb50003, 1, none⟩ = some (.int .i64 0) := (blk_cell BK50003.out 1).trans rfl; have hcz44_2 : w42.cell? ⟨gb50003, 2, none⟩ = some (.int .i64 0) := (blk_cell BK50003.out 2).trans rfl; have hcz44_3 : w42.cell? ⟨gb50003, 3, none⟩ = some (.slice none 0 0) := (blk_cell BK50003.out 3).trans rfl; have hfz44_0 := blk_frozen BK50003.out 0; have hfz44_1 := blk_frozen BK50003.out 1; have hfz44_2 := blk_frozen BK50003.out 2; have hfz44_3 := blk_frozen BK50003.out 3))
    refine bodyPost_ret (results_ct rfl _ _ gb50003 27 #[.int .i64 0, .int .i64 0, .int .i64 0, .slice none 0 0] (0, 0) _ rfl (by refine blk_put (cs := #[.int .i64 0, .int .i64 0, .int .i64 0, .slice none 0 0]) ?_ 3 _ rfl; (with_reducible repeat (first | refine blk_drewN ?_ _ | refine blk_drew ?_ | refine blk_alloc ?_ _)); refine blk_put (cs := #[.int .i64 0, .int .i64 0, .int .i64 0, .slice none 0 0]) ?_ 2 _ rfl; (with_reducible repeat (first | refine blk_drewN ?_ _ | refine blk_drew ?_ | refine blk_alloc ?_ _)); refine blk_put (cs := #[.int .i64 0, .int .i64 0, .int .i64 0, .slice none 0 0]) ?_ 1 _ rfl; (with_reducible repeat (first | refine blk_drewN ?_ _ | refine blk_drew ?_ | refine blk_alloc ?_ _)); refine blk_put (cs := #[.int .i64 0, .int .i64 0, .int .i64 0, .slice none 0 0]) ?_ 0 _ rfl; (with_reducible repeat (first | refine blk_drewN ?_ _ | refine blk_drew ?_ | refine blk_alloc ?_ _)); exact BK50003.out) Try.underlying27 rfl (by kernel_rfl)) rfl ?_
    exact ⟨_, by rfl, by exact Kd.R_nil _ _ _ _ _, by repeat (with_reducible first | exact HB.out | refine below_set ?_ GE50003.out)⟩


def spec_validLayer.f (k : Nat) (a0_0 : Int) (a0_1 : Int) (a0_2 : Int) (l0_3 : List Int) (a0_4 : Int) (a0_5 : Int) (a0_6 : Int) (a0_7 : Int) (a0_8 : Bool) (a1 : Int) : Option Bool := (spec_validImage.f k a0_0 a0_1 a0_2 l0_3).bind fun t102002 => (if t102002 = true then (if a0_2 = a1 then ((spec_inRange.f a0_4 (-16) 16).bind fun t102003 => (if t102003 = true then ((spec_inRange.f a0_5 (-16) 16).bind fun t102004 => (if t102004 = true then ((spec_inRange.f a0_6 0 4).bind fun t102005 => (if t102005 = true then ((spec_inRange.f a0_7 0 255).bind fun t102006 => (some t102006)) else (some false))) else (some false))) else (some false))) else (some false)) else (some false))
theorem spec_validLayer.mono : ∀ a0 a1 a2 a3 a4 a5 a6 a7 a8 a9 k, LeO (spec_validLayer.f k a0 a1 a2 a3 a4 a5 a6 a7 a8 a9) (spec_validLayer.f (k + 1) a0 a1 a2 a3 a4 a5 a6 a7 a8 a9) := by
  intro a0 a1 a2 a3 a4 a5 a6 a7 a8 a9 k
  unfold spec_validLayer.f
  repeat' first | (with_reducible exact spec_validImage.mono _ _ _ _ _) | (with_reducible exact LeO.refl _) | (with_reducible refine LeO.bind ?_ (fun _ => ?_))
set_option maxHeartbeats 8000000 in
set_option maxRecDepth 100000 in
theorem spec_validLayer.calls (k : Nat) (a0_0 : Int) (a0_1 : Int) (a0_2 : Int) (A0_3 : Option Addr) (c0_3 : Nat) (l0_3 : List Int) (a0_4 : Int) (a0_5 : Int) (a0_6 : Int) (a0_7 : Int) (a0_8 : Bool) (a1 : Int) (r : Bool) (w : World) (hr0_3 : Kd.C (Kd.int .i64) w A0_3 l0_3.length l0_3) (hc0_3 : l0_3.length ≤ c0_3) (h : spec_validLayer.f k a0_0 a0_1 a0_2 l0_3 a0_4 a0_5 a0_6 a0_7 a0_8 a1 = some r) :
    Calls Try.prog 101 #[.agg #[.int .i64 a0_0, .int .i64 a0_1, .int .i64 a0_2, .slice A0_3 l0_3.length c0_3, .int .i64 a0_4, .int .i64 a0_5, .int .i64 a0_6, .int .i64 a0_7, .bool a0_8], .int .i64 a1] w fun e w' => e = .returned (.bool r) ∧ Below w.heap.size w w' := by
  have hu55 := Try.underlying55
  have hu27 := Try.underlying27
  have HR0_3 := Aside0.mk hr0_3
  have HC0_3 := Aside0.mk hc0_3
  clear hr0_3 hc0_3
  have HB := Aside0.mk (Below.refl w.heap.size w)
  have H : ((spec_validImage.f k a0_0 a0_1 a0_2 l0_3).bind fun t102002 => (if t102002 = true then (if a0_2 = a1 then ((spec_inRange.f a0_4 (-16) 16).bind fun t102003 => (if t102003 = true then ((spec_inRange.f a0_5 (-16) 16).bind fun t102004 => (if t102004 = true then ((spec_inRange.f a0_6 0 4).bind fun t102005 => (if t102005 = true then ((spec_inRange.f a0_7 0 255).bind fun t102006 => (some t102006)) else (some false))) else (some false))) else (some false))) else (some false)) else (some false))) = some r := h
  clear h
  replace H := Option.bind_eq_some_iff.mp H
  obtain ⟨t102002, A30, H⟩ := H
  replace H : (if t102002 = true then (if a0_2 = a1 then ((spec_inRange.f a0_4 (-16) 16).bind fun t102003 => (if t102003 = true then ((spec_inRange.f a0_5 (-16) 16).bind fun t102004 => (if t102004 = true then ((spec_inRange.f a0_6 0 4).bind fun t102005 => (if t102005 = true then ((spec_inRange.f a0_7 0 255).bind fun t102006 => (some t102006)) else (some false))) else (some false))) else (some false))) else (some false)) else (some false)) = some r := H
  have A3 := Aside0.mk A30
  clear A30
  by_cases c4 : t102002 = true
  · subst c4
    have H1 : (if a0_2 = a1 then ((spec_inRange.f a0_4 (-16) 16).bind fun t102003 => (if t102003 = true then ((spec_inRange.f a0_5 (-16) 16).bind fun t102004 => (if t102004 = true then ((spec_inRange.f a0_6 0 4).bind fun t102005 => (if t102005 = true then ((spec_inRange.f a0_7 0 255).bind fun t102006 => (some t102006)) else (some false))) else (some false))) else (some false))) else (some false)) = some r := by rw [if_pos rfl] at H; exact H
    clear H
    have H := H1
    clear H1
    by_cases c5 : a0_2 = a1
    · rw [if_pos c5] at H
      have c5b0 : (a0_2 == a1) = true := beq_iff_eq.mpr c5
      have c5b1 : (a0_2 != a1) = false := bne_eq_false_iff_eq.mpr c5
      clear c5
      replace H := Option.bind_eq_some_iff.mp H
      obtain ⟨t102003, A60, H⟩ := H
      replace H : (if t102003 = true then ((spec_inRange.f a0_5 (-16) 16).bind fun t102004 => (if t102004 = true then ((spec_inRange.f a0_6 0 4).bind fun t102005 => (if t102005 = true then ((spec_inRange.f a0_7 0 255).bind fun t102006 => (some t102006)) else (some false))) else (some false))) else (some false)) = some r := H
      have A6 := Aside0.mk A60
      clear A60
      by_cases c7 : t102003 = true
      · subst c7
        have H1 : ((spec_inRange.f a0_5 (-16) 16).bind fun t102004 => (if t102004 = true then ((spec_inRange.f a0_6 0 4).bind fun t102005 => (if t102005 = true then ((spec_inRange.f a0_7 0 255).bind fun t102006 => (some t102006)) else (some false))) else (some false))) = some r := by rw [if_pos rfl] at H; exact H
        clear H
        have H := H1
        clear H1
        replace H := Option.bind_eq_some_iff.mp H
        obtain ⟨t102004, A80, H⟩ := H
        replace H : (if t102004 = true then ((spec_inRange.f a0_6 0 4).bind fun t102005 => (if t102005 = true then ((spec_inRange.f a0_7 0 255).bind fun t102006 => (some t102006)) else (some false))) else (some false)) = some r := H
        have A8 := Aside0.mk A80
        clear A80
        by_cases c9 : t102004 = true
        · subst c9
          have H1 : ((spec_inRange.f a0_6 0 4).bind fun t102005 => (if t102005 = true then ((spec_inRange.f a0_7 0 255).bind fun t102006 => (some t102006)) else (some false))) = some r := by rw [if_pos rfl] at H; exact H
          clear H
          have H := H1
          clear H1
          replace H := Option.bind_eq_some_iff.mp H
          obtain ⟨t102005, A100, H⟩ := H
          replace H : (if t102005 = true then ((spec_inRange.f a0_7 0 255).bind fun t102006 => (some t102006)) else (some false)) = some r := H
          have A10 := Aside0.mk A100
          clear A100
          by_cases c11 : t102005 = true
          · subst c11
            have H1 : ((spec_inRange.f a0_7 0 255).bind fun t102006 => (some t102006)) = some r := by rw [if_pos rfl] at H; exact H
            clear H
            have H := H1
            clear H1
            replace H := Option.bind_eq_some_iff.mp H
            obtain ⟨t102006, A120, H⟩ := H
            replace H : (some t102006) = some r := H
            have A12 := Aside0.mk A120
            clear A120
            obtain rfl := Option.some.inj H
            go_enter Try.func101, Try.ntmps101
            go_wp2_with (first | ((with_reducible refine gate_dst (N := 2) rfl ?_); refine box_event ?hg (N := 2) ?hd (cs := #[.int .i64 a0_0, .int .i64 a0_1, .int .i64 a0_2, .slice A0_3 l0_3.length c0_3, .int .i64 a0_4, .int .i64 a0_5, .int .i64 a0_6, .int .i64 a0_7, .bool a0_8]) (t := 55) ?hr ?_; (case hd => rfl); (case hg => rfl); (case hr => (go_simp; done)); intro gb102001 hg w13 hbox hb; have n0_ := Aside0.mk (below_step HB.out hb); have n1_ := Aside0.mk (hbox); have n2_ := Aside0.mk ((by rw [hg]; exact (below_size HB.out) : w.heap.size ≤ gb102001)); have n3_ := Aside0.mk ((by rw [hg]; exact (below_size HB.out) : w.heap.size ≤ gb102001)); clear HB; have HB := n0_; have BK102001 := n1_; have GW102001 := n2_; have GE102001 := n3_; clear n0_ n1_ n2_ n3_; clear hb hbox hg; have hcz14_0 : w13.cell? ⟨gb102001, 0, none⟩ = some (.int .i64 a0_0) := (blk_cell BK102001.out 0).trans rfl; have hcz14_1 : w13.cell? ⟨gb102001, 1, none⟩ = some (.int .i64 a0_1) := (blk_cell BK102001.out 1).trans rfl; have hcz14_2 : w13.cell? ⟨gb102001, 2, none⟩ = some (.int .i64 a0_2) := (blk_cell BK102001.out 2).trans rfl; have hcz14_3 : w13.cell? ⟨gb102001, 3, none⟩ = some (.slice A0_3 l0_3.length c0_3) := (blk_cell BK102001.out 3).trans rfl; have hcz14_4 : w13.cell? ⟨gb102001, 4, none⟩ = some (.int .i64 a0_4) := (blk_cell BK102001.out 4).trans rfl; have hcz14_5 : w13.cell? ⟨gb102001, 5, none⟩ = some (.int .i64 a0_5) := (blk_cell BK102001.out 5).trans rfl; have hcz14_6 : w13.cell? ⟨gb102001, 6, none⟩ = some (.int .i64 a0_6) := (blk_cell BK102001.out 6).trans rfl; have hcz14_7 : w13.cell? ⟨gb102001, 7, none⟩ = some (.int .i64 a0_7) := (blk_cell BK102001.out 7).trans rfl; have hcz14_8 : w13.cell? ⟨gb102001, 8, none⟩ = some (.bool a0_8) := (blk_cell BK102001.out 8).trans rfl; have hfz14_0 := blk_frozen BK102001.out 0; have hfz14_1 := blk_frozen BK102001.out 1; have hfz14_2 := blk_frozen BK102001.out 2; have hfz14_3 := blk_frozen BK102001.out 3; have hfz14_4 := blk_frozen BK102001.out 4; have hfz14_5 := blk_frozen BK102001.out 5; have hfz14_6 := blk_frozen BK102001.out 6; have hfz14_7 := blk_frozen BK102001.out 7; have hfz14_8 := blk_frozen BK102001.out 8) | ((with_reducible refine gate_callee (f := 89) rfl ?_); refine goesL_ (some 7) rfl rfl Try.func89 (by kernel_rfl) rfl #[.agg #[.int .i64 a0_0, .int .i64 a0_1, .int .i64 a0_2, .slice A0_3 l0_3.length c0_3]] rfl (by (try simp only [List.map_toArray, List.map_cons, List.map_nil]); rfl) ?_; (with_reducible refine (spec_validImage.calls k a0_0 a0_1 a0_2 _ _ l0_3 true _ ?side1 ?side2 A3.out).mono ?_); (case side1 => repeat (exact (Kd.C_below HR0_3.out HB.out))); (case side2 => exact HC0_3.out); rintro e w15 ⟨rfl, hb⟩; refine ⟨_, rfl, ?_⟩; have n0_ := Aside0.mk (blk_below BK102001.out hb); have n1_ := Aside0.mk (below_step HB.out hb); clear BK102001; clear HB; have BK102001 := n0_; have HB := n1_; clear n0_ n1_; (try clear hb); have hcz16_0 : w15.cell? ⟨gb102001, 0, none⟩ = some (.int .i64 a0_0) := (blk_cell BK102001.out 0).trans rfl; have hcz16_1 : w15.cell? ⟨gb102001, 1, none⟩ = some (.int .i64 a0_1) := (blk_cell BK102001.out 1).trans rfl; have hcz16_2 : w15.cell? ⟨gb102001, 2, none⟩ = some (.int .i64 a0_2) := (blk_cell BK102001.out 2).trans rfl; have hcz16_3 : w15.cell? ⟨gb102001, 3, none⟩ = some (.slice A0_3 l0_3.length c0_3) := (blk_cell BK102001.out 3).trans rfl; have hcz16_4 : w15.cell? ⟨gb102001, 4, none⟩ = some (.int .i64 a0_4) := (blk_cell BK102001.out 4).trans rfl; have hcz16_5 : w15.cell? ⟨gb102001, 5, none⟩ = some (.int .i64 a0_5) := (blk_cell BK102001.out 5).trans rfl; have hcz16_6 : w15.cell? ⟨gb102001, 6, none⟩ = some (.int .i64 a0_6) := (blk_cell BK102001.out 6).trans rfl; have hcz16_7 : w15.cell? ⟨gb102001, 7, none⟩ = some (.int .i64 a0_7) := (blk_cell BK102001.out 7).trans rfl; have hcz16_8 : w15.cell? ⟨gb102001, 8, none⟩ = some (.bool a0_8) := (blk_cell BK102001.out 8).trans rfl; have hfz16_0 := blk_frozen BK102001.out 0; have hfz16_1 := blk_frozen BK102001.out 1; have hfz16_2 := blk_frozen BK102001.out 2; have hfz16_3 := blk_frozen BK102001.out 3; have hfz16_4 := blk_frozen BK102001.out 4; have hfz16_5 := blk_frozen BK102001.out 5; have hfz16_6 := blk_frozen BK102001.out 6; have hfz16_7 := blk_frozen BK102001.out 7; have hfz16_8 := blk_frozen BK102001.out 8) | (go_at_call 110; (with_reducible refine (spec_inRange.calls a0_4 (-16) 16 true _ A6.out).mono ?_); rintro e w' ⟨rfl, ⟨nd, rfl⟩⟩) | (go_at_call 110; (with_reducible refine (spec_inRange.calls a0_5 (-16) 16 true _ A8.out).mono ?_); rintro e w' ⟨rfl, ⟨nd, rfl⟩⟩) | (go_at_call 110; (with_reducible refine (spec_inRange.calls a0_6 0 4 true _ A10.out).mono ?_); rintro e w' ⟨rfl, ⟨nd, rfl⟩⟩) | (go_at_call 110; (with_reducible refine (spec_inRange.calls a0_7 0 255 t102006 _ A12.out).mono ?_); rintro e w' ⟨rfl, ⟨nd, rfl⟩⟩))
            go_ret
            exact ⟨by rfl, by repeat (with_reducible first | exact HB.out | apply pw_below_drewN)⟩
          · replace c11 := Bool.eq_false_iff.mpr c11
            subst c11
            have H1 : (some false) = some r := by rw [if_neg (show ¬ (false = true) by decide)] at H; exact H
            clear H
            have H := H1
            clear H1
            obtain rfl := Option.some.inj H
            go_enter Try.func101, Try.ntmps101
            go_wp2_with (first | ((with_reducible refine gate_dst (N := 2) rfl ?_); refine box_event ?hg (N := 2) ?hd (cs := #[.int .i64 a0_0, .int .i64 a0_1, .int .i64 a0_2, .slice A0_3 l0_3.length c0_3, .int .i64 a0_4, .int .i64 a0_5, .int .i64 a0_6, .int .i64 a0_7, .bool a0_8]) (t := 55) ?hr ?_; (case hd => rfl); (case hg => rfl); (case hr => (go_simp; done)); intro gb102001 hg w17 hbox hb; have n0_ := Aside0.mk (below_step HB.out hb); have n1_ := Aside0.mk (hbox); have n2_ := Aside0.mk ((by rw [hg]; exact (below_size HB.out) : w.heap.size ≤ gb102001)); have n3_ := Aside0.mk ((by rw [hg]; exact (below_size HB.out) : w.heap.size ≤ gb102001)); clear HB; have HB := n0_; have BK102001 := n1_; have GW102001 := n2_; have GE102001 := n3_; clear n0_ n1_ n2_ n3_; clear hb hbox hg; have hcz18_0 : w17.cell? ⟨gb102001, 0, none⟩ = some (.int .i64 a0_0) := (blk_cell BK102001.out 0).trans rfl; have hcz18_1 : w17.cell? ⟨gb102001, 1, none⟩ = some (.int .i64 a0_1) := (blk_cell BK102001.out 1).trans rfl; have hcz18_2 : w17.cell? ⟨gb102001, 2, none⟩ = some (.int .i64 a0_2) := (blk_cell BK102001.out 2).trans rfl; have hcz18_3 : w17.cell? ⟨gb102001, 3, none⟩ = some (.slice A0_3 l0_3.length c0_3) := (blk_cell BK102001.out 3).trans rfl; have hcz18_4 : w17.cell? ⟨gb102001, 4, none⟩ = some (.int .i64 a0_4) := (blk_cell BK102001.out 4).trans rfl; have hcz18_5 : w17.cell? ⟨gb102001, 5, none⟩ = some (.int .i64 a0_5) := (blk_cell BK102001.out 5).trans rfl; have hcz18_6 : w17.cell? ⟨gb102001, 6, none⟩ = some (.int .i64 a0_6) := (blk_cell BK102001.out 6).trans rfl; have hcz18_7 : w17.cell? ⟨gb102001, 7, none⟩ = some (.int .i64 a0_7) := (blk_cell BK102001.out 7).trans rfl; have hcz18_8 : w17.cell? ⟨gb102001, 8, none⟩ = some (.bool a0_8) := (blk_cell BK102001.out 8).trans rfl; have hfz18_0 := blk_frozen BK102001.out 0; have hfz18_1 := blk_frozen BK102001.out 1; have hfz18_2 := blk_frozen BK102001.out 2; have hfz18_3 := blk_frozen BK102001.out 3; have hfz18_4 := blk_frozen BK102001.out 4; have hfz18_5 := blk_frozen BK102001.out 5; have hfz18_6 := blk_frozen BK102001.out 6; have hfz18_7 := blk_frozen BK102001.out 7; have hfz18_8 := blk_frozen BK102001.out 8) | ((with_reducible refine gate_callee (f := 89) rfl ?_); refine goesL_ (some 7) rfl rfl Try.func89 (by kernel_rfl) rfl #[.agg #[.int .i64 a0_0, .int .i64 a0_1, .int .i64 a0_2, .slice A0_3 l0_3.length c0_3]] rfl (by (try simp only [List.map_toArray, List.map_cons, List.map_nil]); rfl) ?_; (with_reducible refine (spec_validImage.calls k a0_0 a0_1 a0_2 _ _ l0_3 true _ ?side1 ?side2 A3.out).mono ?_); (case side1 => repeat (exact (Kd.C_below HR0_3.out HB.out))); (case side2 => exact HC0_3.out); rintro e w19 ⟨rfl, hb⟩; refine ⟨_, rfl, ?_⟩; have n0_ := Aside0.mk (blk_below BK102001.out hb); have n1_ := Aside0.mk (below_step HB.out hb); clear BK102001; clear HB; have BK102001 := n0_; have HB := n1_; clear n0_ n1_; (try clear hb); have hcz20_0 : w19.cell? ⟨gb102001, 0, none⟩ = some (.int .i64 a0_0) := (blk_cell BK102001.out 0).trans rfl; have hcz20_1 : w19.cell? ⟨gb102001, 1, none⟩ = some (.int .i64 a0_1) := (blk_cell BK102001.out 1).trans rfl; have hcz20_2 : w19.cell? ⟨gb102001, 2, none⟩ = some (.int .i64 a0_2) := (blk_cell BK102001.out 2).trans rfl; have hcz20_3 : w19.cell? ⟨gb102001, 3, none⟩ = some (.slice A0_3 l0_3.length c0_3) := (blk_cell BK102001.out 3).trans rfl; have hcz20_4 : w19.cell? ⟨gb102001, 4, none⟩ = some (.int .i64 a0_4) := (blk_cell BK102001.out 4).trans rfl; have hcz20_5 : w19.cell? ⟨gb102001, 5, none⟩ = some (.int .i64 a0_5) := (blk_cell BK102001.out 5).trans rfl; have hcz20_6 : w19.cell? ⟨gb102001, 6, none⟩ = some (.int .i64 a0_6) := (blk_cell BK102001.out 6).trans rfl; have hcz20_7 : w19.cell? ⟨gb102001, 7, none⟩ = some (.int .i64 a0_7) := (blk_cell BK102001.out 7).trans rfl; have hcz20_8 : w19.cell? ⟨gb102001, 8, none⟩ = some (.bool a0_8) := (blk_cell BK102001.out 8).trans rfl; have hfz20_0 := blk_frozen BK102001.out 0; have hfz20_1 := blk_frozen BK102001.out 1; have hfz20_2 := blk_frozen BK102001.out 2; have hfz20_3 := blk_frozen BK102001.out 3; have hfz20_4 := blk_frozen BK102001.out 4; have hfz20_5 := blk_frozen BK102001.out 5; have hfz20_6 := blk_frozen BK102001.out 6; have hfz20_7 := blk_frozen BK102001.out 7; have hfz20_8 := blk_frozen BK102001.out 8) | (go_at_call 110; (with_reducible refine (spec_inRange.calls a0_4 (-16) 16 true _ A6.out).mono ?_); rintro e w' ⟨rfl, ⟨nd, rfl⟩⟩) | (go_at_call 110; (with_reducible refine (spec_inRange.calls a0_5 (-16) 16 true _ A8.out).mono ?_); rintro e w' ⟨rfl, ⟨nd, rfl⟩⟩) | (go_at_call 110; (with_reducible refine (spec_inRange.calls a0_6 0 4 false _ A10.out).mono ?_); rintro e w' ⟨rfl, ⟨nd, rfl⟩⟩))
            go_ret
            exact ⟨by rfl, by repeat (with_reducible first | exact HB.out | apply pw_below_drewN)⟩
        · replace c9 := Bool.eq_false_iff.mpr c9
          subst c9
          have H1 : (some false) = some r := by rw [if_neg (show ¬ (false = true) by decide)] at H; exact H
          clear H
          have H := H1
          clear H1
          obtain rfl := Option.some.inj H
          go_enter Try.func101, Try.ntmps101
          go_wp2_with (first | ((with_reducible refine gate_dst (N := 2) rfl ?_); refine box_event ?hg (N := 2) ?hd (cs := #[.int .i64 a0_0, .int .i64 a0_1, .int .i64 a0_2, .slice A0_3 l0_3.length c0_3, .int .i64 a0_4, .int .i64 a0_5, .int .i64 a0_6, .int .i64 a0_7, .bool a0_8]) (t := 55) ?hr ?_; (case hd => rfl); (case hg => rfl); (case hr => (go_simp; done)); intro gb102001 hg w21 hbox hb; have n0_ := Aside0.mk (below_step HB.out hb); have n1_ := Aside0.mk (hbox); have n2_ := Aside0.mk ((by rw [hg]; exact (below_size HB.out) : w.heap.size ≤ gb102001)); have n3_ := Aside0.mk ((by rw [hg]; exact (below_size HB.out) : w.heap.size ≤ gb102001)); clear HB; have HB := n0_; have BK102001 := n1_; have GW102001 := n2_; have GE102001 := n3_; clear n0_ n1_ n2_ n3_; clear hb hbox hg; have hcz22_0 : w21.cell? ⟨gb102001, 0, none⟩ = some (.int .i64 a0_0) := (blk_cell BK102001.out 0).trans rfl; have hcz22_1 : w21.cell? ⟨gb102001, 1, none⟩ = some (.int .i64 a0_1) := (blk_cell BK102001.out 1).trans rfl; have hcz22_2 : w21.cell? ⟨gb102001, 2, none⟩ = some (.int .i64 a0_2) := (blk_cell BK102001.out 2).trans rfl; have hcz22_3 : w21.cell? ⟨gb102001, 3, none⟩ = some (.slice A0_3 l0_3.length c0_3) := (blk_cell BK102001.out 3).trans rfl; have hcz22_4 : w21.cell? ⟨gb102001, 4, none⟩ = some (.int .i64 a0_4) := (blk_cell BK102001.out 4).trans rfl; have hcz22_5 : w21.cell? ⟨gb102001, 5, none⟩ = some (.int .i64 a0_5) := (blk_cell BK102001.out 5).trans rfl; have hcz22_6 : w21.cell? ⟨gb102001, 6, none⟩ = some (.int .i64 a0_6) := (blk_cell BK102001.out 6).trans rfl; have hcz22_7 : w21.cell? ⟨gb102001, 7, none⟩ = some (.int .i64 a0_7) := (blk_cell BK102001.out 7).trans rfl; have hcz22_8 : w21.cell? ⟨gb102001, 8, none⟩ = some (.bool a0_8) := (blk_cell BK102001.out 8).trans rfl; have hfz22_0 := blk_frozen BK102001.out 0; have hfz22_1 := blk_frozen BK102001.out 1; have hfz22_2 := blk_frozen BK102001.out 2; have hfz22_3 := blk_frozen BK102001.out 3; have hfz22_4 := blk_frozen BK102001.out 4; have hfz22_5 := blk_frozen BK102001.out 5; have hfz22_6 := blk_frozen BK102001.out 6; have hfz22_7 := blk_frozen BK102001.out 7; have hfz22_8 := blk_frozen BK102001.out 8) | ((with_reducible refine gate_callee (f := 89) rfl ?_); refine goesL_ (some 7) rfl rfl Try.func89 (by kernel_rfl) rfl #[.agg #[.int .i64 a0_0, .int .i64 a0_1, .int .i64 a0_2, .slice A0_3 l0_3.length c0_3]] rfl (by (try simp only [List.map_toArray, List.map_cons, List.map_nil]); rfl) ?_; (with_reducible refine (spec_validImage.calls k a0_0 a0_1 a0_2 _ _ l0_3 true _ ?side1 ?side2 A3.out).mono ?_); (case side1 => repeat (exact (Kd.C_below HR0_3.out HB.out))); (case side2 => exact HC0_3.out); rintro e w23 ⟨rfl, hb⟩; refine ⟨_, rfl, ?_⟩; have n0_ := Aside0.mk (blk_below BK102001.out hb); have n1_ := Aside0.mk (below_step HB.out hb); clear BK102001; clear HB; have BK102001 := n0_; have HB := n1_; clear n0_ n1_; (try clear hb); have hcz24_0 : w23.cell? ⟨gb102001, 0, none⟩ = some (.int .i64 a0_0) := (blk_cell BK102001.out 0).trans rfl; have hcz24_1 : w23.cell? ⟨gb102001, 1, none⟩ = some (.int .i64 a0_1) := (blk_cell BK102001.out 1).trans rfl; have hcz24_2 : w23.cell? ⟨gb102001, 2, none⟩ = some (.int .i64 a0_2) := (blk_cell BK102001.out 2).trans rfl; have hcz24_3 : w23.cell? ⟨gb102001, 3, none⟩ = some (.slice A0_3 l0_3.length c0_3) := (blk_cell BK102001.out 3).trans rfl; have hcz24_4 : w23.cell? ⟨gb102001, 4, none⟩ = some (.int .i64 a0_4) := (blk_cell BK102001.out 4).trans rfl; have hcz24_5 : w23.cell? ⟨gb102001, 5, none⟩ = some (.int .i64 a0_5) := (blk_cell BK102001.out 5).trans rfl; have hcz24_6 : w23.cell? ⟨gb102001, 6, none⟩ = some (.int .i64 a0_6) := (blk_cell BK102001.out 6).trans rfl; have hcz24_7 : w23.cell? ⟨gb102001, 7, none⟩ = some (.int .i64 a0_7) := (blk_cell BK102001.out 7).trans rfl; have hcz24_8 : w23.cell? ⟨gb102001, 8, none⟩ = some (.bool a0_8) := (blk_cell BK102001.out 8).trans rfl; have hfz24_0 := blk_frozen BK102001.out 0; have hfz24_1 := blk_frozen BK102001.out 1; have hfz24_2 := blk_frozen BK102001.out 2; have hfz24_3 := blk_frozen BK102001.out 3; have hfz24_4 := blk_frozen BK102001.out 4; have hfz24_5 := blk_frozen BK102001.out 5; have hfz24_6 := blk_frozen BK102001.out 6; have hfz24_7 := blk_frozen BK102001.out 7; have hfz24_8 := blk_frozen BK102001.out 8) | (go_at_call 110; (with_reducible refine (spec_inRange.calls a0_4 (-16) 16 true _ A6.out).mono ?_); rintro e w' ⟨rfl, ⟨nd, rfl⟩⟩) | (go_at_call 110; (with_reducible refine (spec_inRange.calls a0_5 (-16) 16 false _ A8.out).mono ?_); rintro e w' ⟨rfl, ⟨nd, rfl⟩⟩))
          go_ret
          exact ⟨by rfl, by repeat (with_reducible first | exact HB.out | apply pw_below_drewN)⟩
      · replace c7 := Bool.eq_false_iff.mpr c7
        subst c7
        have H1 : (some false) = some r := by rw [if_neg (show ¬ (false = true) by decide)] at H; exact H
        clear H
        have H := H1
        clear H1
        obtain rfl := Option.some.inj H
        go_enter Try.func101, Try.ntmps101
        go_wp2_with (first | ((with_reducible refine gate_dst (N := 2) rfl ?_); refine box_event ?hg (N := 2) ?hd (cs := #[.int .i64 a0_0, .int .i64 a0_1, .int .i64 a0_2, .slice A0_3 l0_3.length c0_3, .int .i64 a0_4, .int .i64 a0_5, .int .i64 a0_6, .int .i64 a0_7, .bool a0_8]) (t := 55) ?hr ?_; (case hd => rfl); (case hg => rfl); (case hr => (go_simp; done)); intro gb102001 hg w25 hbox hb; have n0_ := Aside0.mk (below_step HB.out hb); have n1_ := Aside0.mk (hbox); have n2_ := Aside0.mk ((by rw [hg]; exact (below_size HB.out) : w.heap.size ≤ gb102001)); have n3_ := Aside0.mk ((by rw [hg]; exact (below_size HB.out) : w.heap.size ≤ gb102001)); clear HB; have HB := n0_; have BK102001 := n1_; have GW102001 := n2_; have GE102001 := n3_; clear n0_ n1_ n2_ n3_; clear hb hbox hg; have hcz26_0 : w25.cell? ⟨gb102001, 0, none⟩ = some (.int .i64 a0_0) := (blk_cell BK102001.out 0).trans rfl; have hcz26_1 : w25.cell? ⟨gb102001, 1, none⟩ = some (.int .i64 a0_1) := (blk_cell BK102001.out 1).trans rfl; have hcz26_2 : w25.cell? ⟨gb102001, 2, none⟩ = some (.int .i64 a0_2) := (blk_cell BK102001.out 2).trans rfl; have hcz26_3 : w25.cell? ⟨gb102001, 3, none⟩ = some (.slice A0_3 l0_3.length c0_3) := (blk_cell BK102001.out 3).trans rfl; have hcz26_4 : w25.cell? ⟨gb102001, 4, none⟩ = some (.int .i64 a0_4) := (blk_cell BK102001.out 4).trans rfl; have hcz26_5 : w25.cell? ⟨gb102001, 5, none⟩ = some (.int .i64 a0_5) := (blk_cell BK102001.out 5).trans rfl; have hcz26_6 : w25.cell? ⟨gb102001, 6, none⟩ = some (.int .i64 a0_6) := (blk_cell BK102001.out 6).trans rfl; have hcz26_7 : w25.cell? ⟨gb102001, 7, none⟩ = some (.int .i64 a0_7) := (blk_cell BK102001.out 7).trans rfl; have hcz26_8 : w25.cell? ⟨gb102001, 8, none⟩ = some (.bool a0_8) := (blk_cell BK102001.out 8).trans rfl; have hfz26_0 := blk_frozen BK102001.out 0; have hfz26_1 := blk_frozen BK102001.out 1; have hfz26_2 := blk_frozen BK102001.out 2; have hfz26_3 := blk_frozen BK102001.out 3; have hfz26_4 := blk_frozen BK102001.out 4; have hfz26_5 := blk_frozen BK102001.out 5; have hfz26_6 := blk_frozen BK102001.out 6; have hfz26_7 := blk_frozen BK102001.out 7; have hfz26_8 := blk_frozen BK102001.out 8) | ((with_reducible refine gate_callee (f := 89) rfl ?_); refine goesL_ (some 7) rfl rfl Try.func89 (by kernel_rfl) rfl #[.agg #[.int .i64 a0_0, .int .i64 a0_1, .int .i64 a0_2, .slice A0_3 l0_3.length c0_3]] rfl (by (try simp only [List.map_toArray, List.map_cons, List.map_nil]); rfl) ?_; (with_reducible refine (spec_validImage.calls k a0_0 a0_1 a0_2 _ _ l0_3 true _ ?side1 ?side2 A3.out).mono ?_); (case side1 => repeat (exact (Kd.C_below HR0_3.out HB.out))); (case side2 => exact HC0_3.out); rintro e w27 ⟨rfl, hb⟩; refine ⟨_, rfl, ?_⟩; have n0_ := Aside0.mk (blk_below BK102001.out hb); have n1_ := Aside0.mk (below_step HB.out hb); clear BK102001; clear HB; have BK102001 := n0_; have HB := n1_; clear n0_ n1_; (try clear hb); have hcz28_0 : w27.cell? ⟨gb102001, 0, none⟩ = some (.int .i64 a0_0) := (blk_cell BK102001.out 0).trans rfl; have hcz28_1 : w27.cell? ⟨gb102001, 1, none⟩ = some (.int .i64 a0_1) := (blk_cell BK102001.out 1).trans rfl; have hcz28_2 : w27.cell? ⟨gb102001, 2, none⟩ = some (.int .i64 a0_2) := (blk_cell BK102001.out 2).trans rfl; have hcz28_3 : w27.cell? ⟨gb102001, 3, none⟩ = some (.slice A0_3 l0_3.length c0_3) := (blk_cell BK102001.out 3).trans rfl; have hcz28_4 : w27.cell? ⟨gb102001, 4, none⟩ = some (.int .i64 a0_4) := (blk_cell BK102001.out 4).trans rfl; have hcz28_5 : w27.cell? ⟨gb102001, 5, none⟩ = some (.int .i64 a0_5) := (blk_cell BK102001.out 5).trans rfl; have hcz28_6 : w27.cell? ⟨gb102001, 6, none⟩ = some (.int .i64 a0_6) := (blk_cell BK102001.out 6).trans rfl; have hcz28_7 : w27.cell? ⟨gb102001, 7, none⟩ = some (.int .i64 a0_7) := (blk_cell BK102001.out 7).trans rfl; have hcz28_8 : w27.cell? ⟨gb102001, 8, none⟩ = some (.bool a0_8) := (blk_cell BK102001.out 8).trans rfl; have hfz28_0 := blk_frozen BK102001.out 0; have hfz28_1 := blk_frozen BK102001.out 1; have hfz28_2 := blk_frozen BK102001.out 2; have hfz28_3 := blk_frozen BK102001.out 3; have hfz28_4 := blk_frozen BK102001.out 4; have hfz28_5 := blk_frozen BK102001.out 5; have hfz28_6 := blk_frozen BK102001.out 6; have hfz28_7 := blk_frozen BK102001.out 7; have hfz28_8 := blk_frozen BK102001.out 8) | (go_at_call 110; (with_reducible refine (spec_inRange.calls a0_4 (-16) 16 false _ A6.out).mono ?_); rintro e w' ⟨rfl, ⟨nd, rfl⟩⟩))
        go_ret
        exact ⟨by rfl, by repeat (with_reducible first | exact HB.out | apply pw_below_drewN)⟩
    · rw [if_neg c5] at H
      have c5b0 : (a0_2 == a1) = false := beq_eq_false_iff_ne.mpr c5
      have c5b1 : (a0_2 != a1) = true := bne_iff_ne.mpr c5
      obtain rfl := Option.some.inj H
      go_enter Try.func101, Try.ntmps101
      go_wp2_with (first | ((with_reducible refine gate_dst (N := 2) rfl ?_); refine box_event ?hg (N := 2) ?hd (cs := #[.int .i64 a0_0, .int .i64 a0_1, .int .i64 a0_2, .slice A0_3 l0_3.length c0_3, .int .i64 a0_4, .int .i64 a0_5, .int .i64 a0_6, .int .i64 a0_7, .bool a0_8]) (t := 55) ?hr ?_; (case hd => rfl); (case hg => rfl); (case hr => (go_simp; done)); intro gb102001 hg w29 hbox hb; have n0_ := Aside0.mk (below_step HB.out hb); have n1_ := Aside0.mk (hbox); have n2_ := Aside0.mk ((by rw [hg]; exact (below_size HB.out) : w.heap.size ≤ gb102001)); have n3_ := Aside0.mk ((by rw [hg]; exact (below_size HB.out) : w.heap.size ≤ gb102001)); clear HB; have HB := n0_; have BK102001 := n1_; have GW102001 := n2_; have GE102001 := n3_; clear n0_ n1_ n2_ n3_; clear hb hbox hg; have hcz30_0 : w29.cell? ⟨gb102001, 0, none⟩ = some (.int .i64 a0_0) := (blk_cell BK102001.out 0).trans rfl; have hcz30_1 : w29.cell? ⟨gb102001, 1, none⟩ = some (.int .i64 a0_1) := (blk_cell BK102001.out 1).trans rfl; have hcz30_2 : w29.cell? ⟨gb102001, 2, none⟩ = some (.int .i64 a0_2) := (blk_cell BK102001.out 2).trans rfl; have hcz30_3 : w29.cell? ⟨gb102001, 3, none⟩ = some (.slice A0_3 l0_3.length c0_3) := (blk_cell BK102001.out 3).trans rfl; have hcz30_4 : w29.cell? ⟨gb102001, 4, none⟩ = some (.int .i64 a0_4) := (blk_cell BK102001.out 4).trans rfl; have hcz30_5 : w29.cell? ⟨gb102001, 5, none⟩ = some (.int .i64 a0_5) := (blk_cell BK102001.out 5).trans rfl; have hcz30_6 : w29.cell? ⟨gb102001, 6, none⟩ = some (.int .i64 a0_6) := (blk_cell BK102001.out 6).trans rfl; have hcz30_7 : w29.cell? ⟨gb102001, 7, none⟩ = some (.int .i64 a0_7) := (blk_cell BK102001.out 7).trans rfl; have hcz30_8 : w29.cell? ⟨gb102001, 8, none⟩ = some (.bool a0_8) := (blk_cell BK102001.out 8).trans rfl; have hfz30_0 := blk_frozen BK102001.out 0; have hfz30_1 := blk_frozen BK102001.out 1; have hfz30_2 := blk_frozen BK102001.out 2; have hfz30_3 := blk_frozen BK102001.out 3; have hfz30_4 := blk_frozen BK102001.out 4; have hfz30_5 := blk_frozen BK102001.out 5; have hfz30_6 := blk_frozen BK102001.out 6; have hfz30_7 := blk_frozen BK102001.out 7; have hfz30_8 := blk_frozen BK102001.out 8) | ((with_reducible refine gate_callee (f := 89) rfl ?_); refine goesL_ (some 7) rfl rfl Try.func89 (by kernel_rfl) rfl #[.agg #[.int .i64 a0_0, .int .i64 a0_1, .int .i64 a0_2, .slice A0_3 l0_3.length c0_3]] rfl (by (try simp only [List.map_toArray, List.map_cons, List.map_nil]); rfl) ?_; (with_reducible refine (spec_validImage.calls k a0_0 a0_1 a0_2 _ _ l0_3 true _ ?side1 ?side2 A3.out).mono ?_); (case side1 => repeat (exact (Kd.C_below HR0_3.out HB.out))); (case side2 => exact HC0_3.out); rintro e w31 ⟨rfl, hb⟩; refine ⟨_, rfl, ?_⟩; have n0_ := Aside0.mk (blk_below BK102001.out hb); have n1_ := Aside0.mk (below_step HB.out hb); clear BK102001; clear HB; have BK102001 := n0_; have HB := n1_; clear n0_ n1_; (try clear hb); have hcz32_0 : w31.cell? ⟨gb102001, 0, none⟩ = some (.int .i64 a0_0) := (blk_cell BK102001.out 0).trans rfl; have hcz32_1 : w31.cell? ⟨gb102001, 1, none⟩ = some (.int .i64 a0_1) := (blk_cell BK102001.out 1).trans rfl; have hcz32_2 : w31.cell? ⟨gb102001, 2, none⟩ = some (.int .i64 a0_2) := (blk_cell BK102001.out 2).trans rfl; have hcz32_3 : w31.cell? ⟨gb102001, 3, none⟩ = some (.slice A0_3 l0_3.length c0_3) := (blk_cell BK102001.out 3).trans rfl; have hcz32_4 : w31.cell? ⟨gb102001, 4, none⟩ = some (.int .i64 a0_4) := (blk_cell BK102001.out 4).trans rfl; have hcz32_5 : w31.cell? ⟨gb102001, 5, none⟩ = some (.int .i64 a0_5) := (blk_cell BK102001.out 5).trans rfl; have hcz32_6 : w31.cell? ⟨gb102001, 6, none⟩ = some (.int .i64 a0_6) := (blk_cell BK102001.out 6).trans rfl; have hcz32_7 : w31.cell? ⟨gb102001, 7, none⟩ = some (.int .i64 a0_7) := (blk_cell BK102001.out 7).trans rfl; have hcz32_8 : w31.cell? ⟨gb102001, 8, none⟩ = some (.bool a0_8) := (blk_cell BK102001.out 8).trans rfl; have hfz32_0 := blk_frozen BK102001.out 0; have hfz32_1 := blk_frozen BK102001.out 1; have hfz32_2 := blk_frozen BK102001.out 2; have hfz32_3 := blk_frozen BK102001.out 3; have hfz32_4 := blk_frozen BK102001.out 4; have hfz32_5 := blk_frozen BK102001.out 5; have hfz32_6 := blk_frozen BK102001.out 6; have hfz32_7 := blk_frozen BK102001.out 7; have hfz32_8 := blk_frozen BK102001.out 8))
      go_ret
      exact ⟨by rfl, by exact HB.out⟩
  · replace c4 := Bool.eq_false_iff.mpr c4
    subst c4
    have H1 : (some false) = some r := by rw [if_neg (show ¬ (false = true) by decide)] at H; exact H
    clear H
    have H := H1
    clear H1
    obtain rfl := Option.some.inj H
    go_enter Try.func101, Try.ntmps101
    go_wp2_with (first | ((with_reducible refine gate_dst (N := 2) rfl ?_); refine box_event ?hg (N := 2) ?hd (cs := #[.int .i64 a0_0, .int .i64 a0_1, .int .i64 a0_2, .slice A0_3 l0_3.length c0_3, .int .i64 a0_4, .int .i64 a0_5, .int .i64 a0_6, .int .i64 a0_7, .bool a0_8]) (t := 55) ?hr ?_; (case hd => rfl); (case hg => rfl); (case hr => (go_simp; done)); intro gb102001 hg w33 hbox hb; have n0_ := Aside0.mk (below_step HB.out hb); have n1_ := Aside0.mk (hbox); have n2_ := Aside0.mk ((by rw [hg]; exact (below_size HB.out) : w.heap.size ≤ gb102001)); have n3_ := Aside0.mk ((by rw [hg]; exact (below_size HB.out) : w.heap.size ≤ gb102001)); clear HB; have HB := n0_; have BK102001 := n1_; have GW102001 := n2_; have GE102001 := n3_; clear n0_ n1_ n2_ n3_; clear hb hbox hg; have hcz34_0 : w33.cell? ⟨gb102001, 0, none⟩ = some (.int .i64 a0_0) := (blk_cell BK102001.out 0).trans rfl; have hcz34_1 : w33.cell? ⟨gb102001, 1, none⟩ = some (.int .i64 a0_1) := (blk_cell BK102001.out 1).trans rfl; have hcz34_2 : w33.cell? ⟨gb102001, 2, none⟩ = some (.int .i64 a0_2) := (blk_cell BK102001.out 2).trans rfl; have hcz34_3 : w33.cell? ⟨gb102001, 3, none⟩ = some (.slice A0_3 l0_3.length c0_3) := (blk_cell BK102001.out 3).trans rfl; have hcz34_4 : w33.cell? ⟨gb102001, 4, none⟩ = some (.int .i64 a0_4) := (blk_cell BK102001.out 4).trans rfl; have hcz34_5 : w33.cell? ⟨gb102001, 5, none⟩ = some (.int .i64 a0_5) := (blk_cell BK102001.out 5).trans rfl; have hcz34_6 : w33.cell? ⟨gb102001, 6, none⟩ = some (.int .i64 a0_6) := (blk_cell BK102001.out 6).trans rfl; have hcz34_7 : w33.cell? ⟨gb102001, 7, none⟩ = some (.int .i64 a0_7) := (blk_cell BK102001.out 7).trans rfl; have hcz34_8 : w33.cell? ⟨gb102001, 8, none⟩ = some (.bool a0_8) := (blk_cell BK102001.out 8).trans rfl; have hfz34_0 := blk_frozen BK102001.out 0; have hfz34_1 := blk_frozen BK102001.out 1; have hfz34_2 := blk_frozen BK102001.out 2; have hfz34_3 := blk_frozen BK102001.out 3; have hfz34_4 := blk_frozen BK102001.out 4; have hfz34_5 := blk_frozen BK102001.out 5; have hfz34_6 := blk_frozen BK102001.out 6; have hfz34_7 := blk_frozen BK102001.out 7; have hfz34_8 := blk_frozen BK102001.out 8) | ((with_reducible refine gate_callee (f := 89) rfl ?_); refine goesL_ (some 7) rfl rfl Try.func89 (by kernel_rfl) rfl #[.agg #[.int .i64 a0_0, .int .i64 a0_1, .int .i64 a0_2, .slice A0_3 l0_3.length c0_3]] rfl (by (try simp only [List.map_toArray, List.map_cons, List.map_nil]); rfl) ?_; (with_reducible refine (spec_validImage.calls k a0_0 a0_1 a0_2 _ _ l0_3 false _ ?side1 ?side2 A3.out).mono ?_); (case side1 => repeat (exact (Kd.C_below HR0_3.out HB.out))); (case side2 => exact HC0_3.out); rintro e w35 ⟨rfl, hb⟩; refine ⟨_, rfl, ?_⟩; have n0_ := Aside0.mk (blk_below BK102001.out hb); have n1_ := Aside0.mk (below_step HB.out hb); clear BK102001; clear HB; have BK102001 := n0_; have HB := n1_; clear n0_ n1_; (try clear hb)))
    go_ret
    exact ⟨by rfl, by exact HB.out⟩


def spec_copyInts.f (l0 : List Int) : Option (List Int) := (some (([] : List Int) : List Int)).bind fun y130001 => (if y130001.length + l0.length < 17592186044416 then (some (y130001 ++ l0)) else (none))
set_option maxHeartbeats 8000000 in
set_option maxRecDepth 100000 in
theorem spec_copyInts.calls (A0 : Option Addr) (c0 : Nat) (l0 : List Int) (r : List Int) (w : World) (hr0 : Kd.C (Kd.int .i64) w A0 l0.length l0) (hc0 : l0.length ≤ c0) (h : spec_copyInts.f l0 = some r) :
    Calls Try.prog 129 #[.slice A0 l0.length c0] w fun e w' => ∃ v0_ : Value, e = .returned (v0_) ∧ Kd.R (Kd.int .i64) 3 w' w.heap.size (fun _ => True) v0_ r ∧ Below w.heap.size w w' := by
  have HR0 := Aside0.mk hr0
  have HC0 := Aside0.mk hc0
  clear hr0 hc0
  have HB := Aside0.mk (Below.refl w.heap.size w)
  have H : ((some (([] : List Int) : List Int)).bind fun y130001 => (if y130001.length + l0.length < 17592186044416 then (some (y130001 ++ l0)) else (none))) = some r := h
  clear h
  obtain ⟨y130001, hy130001⟩ : ∃ y_ : List Int, y_ = (([] : List Int)) := ⟨_, rfl⟩
  replace H : (if y130001.length + l0.length < 17592186044416 then (some (y130001 ++ l0)) else (none)) = some r := by first | (rw [hy130001]; with_reducible exact H) | (have H2_ := (Option.bind_some _ _).symm.trans H; rw [hy130001]; with_reducible exact H2_) | (have H2_ := (Option.bind_some _ _).symm.trans H; with_reducible exact H2_) | with_reducible exact H | (rw [hy130001]; exact H) | exact H
  have Ny130001 := Aside0.mk hy130001
  clear hy130001
  by_cases c2 : y130001.length + l0.length < 17592186044416
  · rw [if_pos c2] at H
    have LMc2 := Aside0.mk c2
    clear c2
    obtain ⟨y130004, hy130004⟩ : ∃ y_ : List Int, y_ = (y130001 ++ l0) := ⟨_, rfl⟩
    replace H : (some y130004) = some r := by first | (rw [hy130004]; with_reducible exact H) | (have H2_ := (Option.bind_some _ _).symm.trans H; rw [hy130004]; with_reducible exact H2_) | (have H2_ := (Option.bind_some _ _).symm.trans H; with_reducible exact H2_) | with_reducible exact H | (rw [hy130004]; exact H) | exact H
    have Ny130004 := Aside0.mk hy130004
    clear hy130004
    obtain rfl := Option.some.inj H
    go_enter Try.func129, Try.ntmps129
    go_wp2_with (first | ((with_reducible refine gate_dst (N := 3) rfl ?_); refine Kd.R_lit (Kd.int .i64) _ 3 ?hg (N := 3) ?hd (xs := ([] : List Int)) (inner := []) (ok := fun _ => True) (okp := fun _ => True) ?hr ?hp (fun _ hk => hk) trivial (Below.refl _ _) (Nat.le_refl _) (by simp) ?_; (case hd => rfl); (case hg => rfl); (case hr => first | (go_simp; done) | (go_simp; rfl)); (case hp => exact (Reps.none _ _)); intro v130002 w3 ho4 hb hg_ hnew_; clear hg_ hnew_; (first | rw [← Ny130001.out] at ho4 | (simp only [Int.reduceToNat] at ho4; rw [← Ny130001.out] at ho4)); have n0_ := Aside0.mk (Kd.R_lower ho4 (below_size (by repeat (first | (with_reducible first | exact HB.out | apply below_alloc | apply pw_below_drewN | apply below_drew1) | exact HB.out)))); have n1_ := Aside0.mk (below_step (by repeat (first | (with_reducible first | exact HB.out | apply below_alloc | apply pw_below_drewN | apply below_drew1) | exact HB.out)) hb); clear HB; have HO130003 := n0_; have HB := n1_; clear n0_ n1_; clear hb ho4) | ((with_reducible refine gate_builtin (b := .append) (xs := #[.tmp 3, .tmp 4]) rfl ?_); at_builtin; refine Kd.R_append_rows (Kd.int .i64) (w0 := w) w.heap.size rfl (.tmp 3) (.tmp 4) 22 3 (.int .i64 0) 8 rfl Try.underlying22 info3 rfl (by decide) (by omega) v130002 y130001 l0 _ _ _ (fun _ => True) (fun _ => False) rfl rfl ?aO ?aR (fun _ _ h => h) (fun _ h => h.elim) ?aF ?aB ?aS ?aL ?_; (case aR => repeat (first | exact (Kd.C_below HR0.out HB.out) | (with_reducible refine Kd.C_alloc ?_ _) | (with_reducible refine Kd.C_drewN ?_ _) | (with_reducible refine Kd.C_drew ?_))); (case aB => exact (by repeat (first | (with_reducible first | exact HB.out | apply below_alloc | apply pw_below_drewN | apply below_drew1) | exact HB.out))); (case aF => exact (fun _ _ => trivial)); (case aO => exact (by (with_reducible repeat (first | apply Kd.R_alloc | apply Kd.R_drewN | apply Kd.R_drew)); exact HO130003.out)); (case aS => exact (below_size (by repeat (first | (with_reducible first | exact HB.out | apply below_alloc | apply pw_below_drewN | apply below_drew1) | exact HB.out)))); (case aL => have := LMc2.out; omega); intro v130005 w5 ho hb hg hat; rw [← Ny130004.out] at ho; have n0_ := Aside0.mk (hb); have n1_ := Aside0.mk (ho); clear HB; clear HO130003; have HB := n0_; have HO130006 := n1_; clear n0_ n1_; clear ho hb hg hat))
    go_ret
    exact ⟨_, by first | rfl | (simp [errW_none, errW_some] <;> rfl) | (simp [*, errW_none, errW_some] <;> rfl), by (with_reducible repeat (first | apply Kd.R_alloc | apply Kd.R_drewN | apply Kd.R_drew)); exact HO130006.out, by repeat (first | (with_reducible first | exact HB.out | apply below_alloc | apply pw_below_drewN | apply below_drew1) | exact HB.out)⟩
  · rw [if_neg c2] at H
    exact absurd H (by simp)


def spec_copyImage.f (a0_0 : Int) (a0_1 : Int) (a0_2 : Int) (l0_3 : List Int) : Option (Int × Int × Int × List Int) := (spec_copyInts.f l0_3).bind fun t114003 => (some (a0_0, a0_1, a0_2, t114003))
def spec_copyImage.T1 : Bool × List (List Nat × List Nat) := (true, [([], []), ([0], [0]), ([], []), ([2], [2]), ([], []), ([4], [4]), ([], []), ([6], [6]), ([7], [7]), ([1, 3, 5, 8], [1, 3, 5, 8]), ([9, 8, 0, 1, 2, 3, 4, 5, 6, 7, 8, 9], [9])])
def spec_copyImage.B1 : List Nat := [0, 1, 0, 4, 0, 16, 0, 64, 192, 511, 1023]
theorem spec_copyImage.tab1 : rtab .any (opsOf Try.f113 1) = spec_copyImage.T1 := by kernel_rfl
theorem spec_copyImage.bits1 : waitsOk spec_copyImage.T1.2 spec_copyImage.B1 = true := by kernel_rfl
set_option maxHeartbeats 8000000 in
set_option maxRecDepth 100000 in
theorem spec_copyImage.calls (a0_0 : Int) (a0_1 : Int) (a0_2 : Int) (A0_3 : Option Addr) (c0_3 : Nat) (l0_3 : List Int) (r1 : Int) (r2 : Int) (r3 : Int) (r4 : List Int) (w : World) (hr0_3 : Kd.C (Kd.int .i64) w A0_3 l0_3.length l0_3) (hc0_3 : l0_3.length ≤ c0_3) (h : spec_copyImage.f a0_0 a0_1 a0_2 l0_3 = some (r1, r2, r3, r4)) :
    Calls Try.prog 113 #[.agg #[.int .i64 a0_0, .int .i64 a0_1, .int .i64 a0_2, .slice A0_3 l0_3.length c0_3]] w fun e w' => ∃ v3_ : Value, e = .returned (.agg #[.int .i64 r1, .int .i64 r2, .int .i64 r3, v3_]) ∧ Kd.R (Kd.int .i64) 3 w' w.heap.size (fun _ => True) v3_ r4 ∧ Below w.heap.size w w' := by
  have hu27 := Try.underlying27
  have HR0_3 := Aside0.mk hr0_3
  have HC0_3 := Aside0.mk hc0_3
  clear hr0_3 hc0_3
  have HB := Aside0.mk (Below.refl w.heap.size w)
  have H : ((spec_copyInts.f l0_3).bind fun t114003 => (some (a0_0, a0_1, a0_2, t114003))) = some (r1, r2, r3, r4) := h
  clear h
  replace H := Option.bind_eq_some_iff.mp H
  obtain ⟨t114003, A20, H⟩ := H
  replace H : (some (a0_0, a0_1, a0_2, t114003)) = some (r1, r2, r3, r4) := H
  have A2 := Aside0.mk A20
  clear A20
  simp only [Option.some.injEq, Prod.mk.injEq] at H
  obtain ⟨rfl, rfl, rfl, rfl⟩ := H
  go_enter Try.func113, Try.ntmps113
  try go_wp2_with (first | ((with_reducible refine gate_dst (N := 1) rfl ?_); refine box_event ?hg (N := 1) ?hd (cs := #[.int .i64 a0_0, .int .i64 a0_1, .int .i64 a0_2, .slice A0_3 l0_3.length c0_3]) (t := 27) ?hr ?_; (case hd => rfl); (case hg => rfl); (case hr => first | (go_simp; done) | (go_simp; rfl)); intro gb114001 hg w3 hbox hb; have n0_ := Aside0.mk (below_step (by repeat (first | (with_reducible first | exact HB.out | apply below_alloc | apply pw_below_drewN | apply below_drew1) | exact HB.out)) hb); have n1_ := Aside0.mk (hbox); have n2_ := Aside0.mk ((by rw [hg]; exact (below_size (by repeat (first | (with_reducible first | exact HB.out | apply below_alloc | apply pw_below_drewN | apply below_drew1) | exact HB.out))) : w.heap.size ≤ gb114001)); have n3_ := Aside0.mk ((by rw [hg]; exact (below_size (by repeat (first | (with_reducible first | exact HB.out | apply below_alloc | apply pw_below_drewN | apply below_drew1) | exact HB.out))) : w.heap.size ≤ gb114001)); clear HB; have HB := n0_; have BK114001 := n1_; have GW114001 := n2_; have GE114001 := n3_; clear n0_ n1_ n2_ n3_; clear hb hbox hg) | ((with_reducible refine gate_dst (N := 2) rfl ?_); refine box_event ?hg (N := 2) ?hd (cs := #[.int .i64 0, .int .i64 0, .int .i64 0, .slice none 0 0]) (t := 27) ?hr ?_; (case hd => rfl); (case hg => rfl); (case hr => first | (go_simp; done) | (go_simp; rfl)); intro gb114002 hg w4 hbox hb; have n0_ := Aside0.mk (blk_below (g := gb114001) (o := .cells #[.int .i64 a0_0, .int .i64 a0_1, .int .i64 a0_2, .slice A0_3 l0_3.length c0_3] 27 (0, 0)) (by (with_reducible repeat (first | refine blk_drewN ?_ _ | refine blk_drew ?_ | refine blk_alloc ?_ _)); exact BK114001.out) hb); have n1_ := Aside0.mk (below_step (by repeat (first | (with_reducible first | exact HB.out | apply below_alloc | apply pw_below_drewN | apply below_drew1 | refine below_set ?_ GE114001.out) | exact HB.out)) hb); have n2_ := Aside0.mk (hbox); have n3_ := Aside0.mk ((by rw [hg]; exact (below_size (by repeat (first | (with_reducible first | exact HB.out | apply below_alloc | apply pw_below_drewN | apply below_drew1 | refine below_set ?_ GE114001.out) | exact HB.out))) : w.heap.size ≤ gb114002)); have n4_ := Aside0.mk ((by rw [hg]; exact (below_size (by repeat (first | (with_reducible first | exact HB.out | apply below_alloc | apply pw_below_drewN | apply below_drew1 | refine below_set ?_ GE114001.out) | exact HB.out))) : w.heap.size ≤ gb114002)); have n5_ := Aside0.mk ((by rw [hg]; exact Nat.ne_of_lt (blk_lt (g := gb114001) (o := .cells #[.int .i64 a0_0, .int .i64 a0_1, .int .i64 a0_2, .slice A0_3 l0_3.length c0_3] 27 (0, 0)) (by (with_reducible repeat (first | refine blk_drewN ?_ _ | refine blk_drew ?_ | refine blk_alloc ?_ _)); exact BK114001.out)) : gb114001 ≠ gb114002)); have n6_ := Aside0.mk ((by rw [hg]; exact Nat.ne_of_gt (blk_lt (g := gb114001) (o := .cells #[.int .i64 a0_0, .int .i64 a0_1, .int .i64 a0_2, .slice A0_3 l0_3.length c0_3] 27 (0, 0)) (by (with_reducible repeat (first | refine blk_drewN ?_ _ | refine blk_drew ?_ | refine blk_alloc ?_ _)); exact BK114001.out)) : gb114002 ≠ gb114001)); clear BK114001; clear HB; have BK114001 := n0_; have HB := n1_; have BK114002 := n2_; have GW114002 := n3_; have GE114002 := n4_; have NB114001_114002 := n5_; have NB114002_114001 := n6_; clear n0_ n1_ n2_ n3_ n4_ n5_ n6_; clear hb hbox hg))
  have n0_ := Aside0.mk (blk_drew BK114001.out)
  have n1_ := Aside0.mk (blk_drew BK114002.out)
  have n2_ := Aside0.mk (below_drew1 HB.out)
  clear BK114001
  clear BK114002
  clear HB
  have BK114001 := n0_
  have BK114002 := n1_
  have HB := n2_
  clear n0_ n1_ n2_
  refine start_ (n := 11) (S := fun w' => w'.cell? ⟨gb114001, 0, none⟩ = some (.int .i64 a0_0) ∧ w'.cell? ⟨gb114001, 1, none⟩ = some (.int .i64 a0_1) ∧ w'.cell? ⟨gb114001, 2, none⟩ = some (.int .i64 a0_2) ∧ w'.cell? ⟨gb114001, 3, none⟩ = some (.slice A0_3 l0_3.length c0_3)) (ds := []) #[false, false, false, false, false, false, false, false, false, false, false] (by kernel_rfl) rfl rfl ⟨(blk_cell BK114001.out 0).trans rfl, (blk_cell BK114001.out 1).trans rfl, (blk_cell BK114001.out 2).trans rfl, (blk_cell BK114001.out 3).trans rfl⟩ (fun hHeld => ?_); refine with_tabW spec_copyImage.tab1 spec_copyImage.bits1 (fun HT_ HW_ => ?_)
  generalize w4.drew = w5 at BK114001 BK114002 HB hHeld ⊢
  refine pure_ (i := 0) (N := some 3) (v := ?_) (a' := ?_) #[true, false, false, false, false, false, false, false, false, false, false] rfl rfl (any_of HT_.out (by kernel_rfl)) (fun _ _ _ h => h) (Or.inl ⟨by rfl, ?_⟩) ?_ ?_
  rotate_left
  · intro w'
    go_simp
    with_reducible rfl
  rotate_left
  · simp only [Act.put, List.setIfInBounds_toArray, List.set_cons_zero, List.set_cons_succ, i64_w, i32_w]
    rfl
  refine pure_ (i := 2) (N := some 5) (v := ?_) (a' := ?_) #[true, false, true, false, false, false, false, false, false, false, false] rfl rfl (any_of HT_.out (by kernel_rfl)) (fun _ _ _ h => h) (Or.inl ⟨by rfl, ?_⟩) ?_ ?_
  rotate_left
  · intro w'
    go_simp
    with_reducible rfl
  rotate_left
  · simp only [Act.put, List.setIfInBounds_toArray, List.set_cons_zero, List.set_cons_succ, i64_w, i32_w]
    rfl
  refine pure_ (i := 4) (N := some 7) (v := ?_) (a' := ?_) #[true, false, true, false, true, false, false, false, false, false, false] rfl rfl (any_of HT_.out (by kernel_rfl)) (fun _ _ _ h => h) (Or.inl ⟨by rfl, ?_⟩) ?_ ?_
  rotate_left
  · intro w'
    go_simp
    with_reducible rfl
  rotate_left
  · simp only [Act.put, List.setIfInBounds_toArray, List.set_cons_zero, List.set_cons_succ, i64_w, i32_w]
    rfl
  refine pure_ (i := 6) (N := some 9) (v := ?_) (a' := ?_) #[true, false, true, false, true, false, true, false, false, false, false] rfl rfl (any_of HT_.out (by kernel_rfl)) (fun _ _ _ h => h) (Or.inl ⟨by rfl, ?_⟩) ?_ ?_
  rotate_left
  · intro w'
    go_simp
    with_reducible rfl
  rotate_left
  · simp only [Act.put, List.setIfInBounds_toArray, List.set_cons_zero, List.set_cons_succ, i64_w, i32_w]
    rfl
  refine take_ (i := 1) (N := some 4) (v := ?_) (a' := ?_) #[true, true, true, false, true, false, true, false, false, false, false] rfl rfl (take_ofW HT_.out HW_.out (by kernel_rfl)) (fun _ _ _ h => h) (Or.inl ⟨by rfl, ?_⟩) hHeld ?_ ?_
  rotate_left
  · rintro w' ⟨s0, s1, s2, s3⟩
    go_simp
    with_reducible rfl
  rotate_left
  · simp only [Act.put, List.setIfInBounds_toArray, List.set_cons_zero, List.set_cons_succ, i64_w, i32_w]
    rfl
  refine take_ (i := 3) (N := some 6) (v := ?_) (a' := ?_) #[true, true, true, true, true, false, true, false, false, false, false] rfl rfl (take_ofW HT_.out HW_.out (by kernel_rfl)) (fun _ _ _ h => h) (Or.inl ⟨by rfl, ?_⟩) hHeld ?_ ?_
  rotate_left
  · rintro w' ⟨s0, s1, s2, s3⟩
    go_simp
    with_reducible rfl
  rotate_left
  · simp only [Act.put, List.setIfInBounds_toArray, List.set_cons_zero, List.set_cons_succ, i64_w, i32_w]
    rfl
  refine take_ (i := 5) (N := some 8) (v := ?_) (a' := ?_) #[true, true, true, true, true, true, true, false, false, false, false] rfl rfl (take_ofW HT_.out HW_.out (by kernel_rfl)) (fun _ _ _ h => h) (Or.inl ⟨by rfl, ?_⟩) hHeld ?_ ?_
  rotate_left
  · rintro w' ⟨s0, s1, s2, s3⟩
    go_simp
    with_reducible rfl
  rotate_left
  · simp only [Act.put, List.setIfInBounds_toArray, List.set_cons_zero, List.set_cons_succ, i64_w, i32_w]
    rfl
  refine take_ (i := 7) (N := some 10) (v := ?_) (a' := ?_) #[true, true, true, true, true, true, true, true, false, false, false] rfl rfl (take_ofW HT_.out HW_.out (by kernel_rfl)) (fun _ _ _ h => h) (Or.inl ⟨by rfl, ?_⟩) hHeld ?_ ?_
  rotate_left
  · rintro w' ⟨s0, s1, s2, s3⟩
    go_simp
    with_reducible rfl
  rotate_left
  · simp only [Act.put, List.setIfInBounds_toArray, List.set_cons_zero, List.set_cons_succ, i64_w, i32_w]
    rfl
  refine one_ (i := 8) (N := some 11) #[true, true, true, true, true, true, true, true, true, false, false] rfl rfl (one_of HT_.out (by kernel_rfl)) (by decide) (fun K hK => ?_)
  refine goes_ Try.func129 (by kernel_rfl) rfl #[.slice A0_3 l0_3.length c0_3] (by rfl) rfl rfl (by (try simp only [List.map_toArray, List.map_cons, List.map_nil]); first | done | rfl | (simp only [List.length_drop, List.length_take]; rfl)) ?_
  with_reducible refine (spec_copyInts.calls _ _ l0_3 t114003 _ ?side1 ?side2 A2.out).mono ?_
  (case side1 => repeat (first | exact (Kd.C_below HR0_3.out HB.out) | (with_reducible refine Kd.C_alloc ?_ _) | (with_reducible refine Kd.C_drewN ?_ _) | (with_reducible refine Kd.C_drew ?_)))
  (case side2 => exact HC0_3.out)
  rintro e w6 ⟨v114004, rfl, ho0, hb⟩
  refine ⟨_, rfl, ?_⟩
  have n0_ := Aside0.mk (Kd.R_lower ho0 (below_size (by repeat (first | (with_reducible first | exact HB.out | apply below_alloc | apply pw_below_drewN | apply below_drew1 | refine below_set ?_ GE114001.out | refine below_set ?_ GE114002.out) | exact HB.out))))
  have n1_ := Aside0.mk (blk_below (g := gb114001) (o := .cells #[.int .i64 a0_0, .int .i64 a0_1, .int .i64 a0_2, .slice A0_3 l0_3.length c0_3] 27 (0, 0)) (by (with_reducible repeat (first | refine blk_drewN ?_ _ | refine blk_drew ?_ | refine blk_alloc ?_ _)); exact BK114001.out) hb)
  have n2_ := Aside0.mk (blk_below (g := gb114002) (o := .cells #[.int .i64 0, .int .i64 0, .int .i64 0, .slice none 0 0] 27 (0, 0)) (by (with_reducible repeat (first | refine blk_drewN ?_ _ | refine blk_drew ?_ | refine blk_alloc ?_ _)); exact BK114002.out) hb)
  have n3_ := Aside0.mk (below_step (by repeat (first | (with_reducible first | exact HB.out | apply below_alloc | apply pw_below_drewN | apply below_drew1 | refine below_set ?_ GE114001.out | refine below_set ?_ GE114002.out) | exact HB.out)) hb)
  clear BK114001
  clear BK114002
  clear HB
  have HO114005 := n0_
  have BK114001 := n1_
  have BK114002 := n2_
  have HB := n3_
  clear n0_ n1_ n2_ n3_
  (try clear hb)
  (try clear hb2)
  (try clear hk)
  (try clear hi)
  (try clear ho0)
  obtain ⟨Ao7, co7, eo7⟩ := Kd.R_slice HO114005.out
  (first | subst eo7 | (injection eo7 with f1_ f2_ f3_; have f4_ := f1_.symm; have f5_ := f3_.symm; clear f1_ f2_ f3_; subst f4_; subst f5_))
  refine hK.out _ _ ⟨(blk_cell BK114001.out 0).trans rfl, (blk_cell BK114001.out 1).trans rfl, (blk_cell BK114001.out 2).trans rfl, (blk_cell BK114001.out 3).trans rfl⟩ (fun hHeld => ?_)
  clear hK K
  refine norm_ (a' := ?_) ?_ ?_
  rotate_left
  · show Act.put _ (some 11) _ = _
    simp only [Act.put, List.setIfInBounds_toArray, List.set_cons_zero, List.set_cons_succ, i64_w, i32_w]
    rfl
  refine pure_ (i := 9) (N := some 12) (v := ?_) (a' := ?_) #[true, true, true, true, true, true, true, true, true, true, false] rfl rfl (any_of HT_.out (by kernel_rfl)) (fun _ _ _ h => h) (Or.inl ⟨by rfl, ?_⟩) ?_ ?_
  rotate_left
  · intro w'
    go_simp
    with_reducible rfl
  rotate_left
  · simp only [Act.put, List.setIfInBounds_toArray, List.set_cons_zero, List.set_cons_succ, i64_w, i32_w]
    rfl
  refine one_ (i := 10) (N := none) #[true, true, true, true, true, true, true, true, true, true, true] rfl rfl (one_of HT_.out (by kernel_rfl)) (by decide) (fun K hK => ?_)
  have hs8 : w6.cell? ⟨gb114002, 0, none⟩ = some (.int .i64 0) := (blk_cell BK114002.out 0).trans rfl
  have hfs8 := blk_frozen BK114002.out 0
  have hns8_0 := NB114001_114002.out
  have hms8_0 := NB114002_114001.out
  have hs9 : w6.cell? ⟨gb114002, 1, none⟩ = some (.int .i64 0) := (blk_cell BK114002.out 1).trans rfl
  have hfs9 := blk_frozen BK114002.out 1
  have hns9_0 := NB114001_114002.out
  have hms9_0 := NB114002_114001.out
  have hs10 : w6.cell? ⟨gb114002, 2, none⟩ = some (.int .i64 0) := (blk_cell BK114002.out 2).trans rfl
  have hfs10 := blk_frozen BK114002.out 2
  have hns10_0 := NB114001_114002.out
  have hms10_0 := NB114002_114001.out
  have hs11 : w6.cell? ⟨gb114002, 3, none⟩ = some (.slice none 0 0) := (blk_cell BK114002.out 3).trans rfl
  have hfs11 := blk_frozen BK114002.out 3
  have hns11_0 := NB114001_114002.out
  have hms11_0 := NB114002_114001.out
  refine skip_ (w1 := ?_) (by rfl) rfl ?_ ?_
  rotate_left
  · go_simp
    rfl
  refine hK.out _ _ ⟨((cell_far (p := ⟨gb114002, _, none⟩) NB114001_114002.out _).trans (((cell_far (p := ⟨gb114002, _, none⟩) NB114001_114002.out _).trans (((cell_far (p := ⟨gb114002, _, none⟩) NB114001_114002.out _).trans (((cell_far (p := ⟨gb114002, _, none⟩) NB114001_114002.out _).trans (hHeld.1)))))))), ((cell_far (p := ⟨gb114002, _, none⟩) NB114001_114002.out _).trans (((cell_far (p := ⟨gb114002, _, none⟩) NB114001_114002.out _).trans (((cell_far (p := ⟨gb114002, _, none⟩) NB114001_114002.out _).trans (((cell_far (p := ⟨gb114002, _, none⟩) NB114001_114002.out _).trans (hHeld.2.1)))))))), ((cell_far (p := ⟨gb114002, _, none⟩) NB114001_114002.out _).trans (((cell_far (p := ⟨gb114002, _, none⟩) NB114001_114002.out _).trans (((cell_far (p := ⟨gb114002, _, none⟩) NB114001_114002.out _).trans (((cell_far (p := ⟨gb114002, _, none⟩) NB114001_114002.out _).trans (hHeld.2.2.1)))))))), ((cell_far (p := ⟨gb114002, _, none⟩) NB114001_114002.out _).trans (((cell_far (p := ⟨gb114002, _, none⟩) NB114001_114002.out _).trans (((cell_far (p := ⟨gb114002, _, none⟩) NB114001_114002.out _).trans (((cell_far (p := ⟨gb114002, _, none⟩) NB114001_114002.out _).trans (hHeld.2.2.2))))))))⟩ (fun hHeld => ?_)
  clear hK K
  refine done_ (done_of HT_.out (by kernel_rfl)) ?_
  try go_wp2
  refine bodyPost_ret (results_cell_row rfl _ _ gb114002 27 #[.int .i64 a0_0, .int .i64 a0_1, .int .i64 a0_2, .slice Ao7 t114003.length co7] (0, 0) _ rfl (by (with_reducible repeat (first | refine blk_drewN ?_ _ | refine blk_drew ?_ | refine blk_alloc ?_ _)); refine blk_put (cs := #[.int .i64 a0_0, .int .i64 a0_1, .int .i64 a0_2, .slice none 0 0]) ?_ 3 _ rfl; (with_reducible repeat (first | refine blk_drewN ?_ _ | refine blk_drew ?_ | refine blk_alloc ?_ _)); refine blk_put (cs := #[.int .i64 a0_0, .int .i64 a0_1, .int .i64 0, .slice none 0 0]) ?_ 2 _ rfl; (with_reducible repeat (first | refine blk_drewN ?_ _ | refine blk_drew ?_ | refine blk_alloc ?_ _)); refine blk_put (cs := #[.int .i64 a0_0, .int .i64 0, .int .i64 0, .slice none 0 0]) ?_ 1 _ rfl; (with_reducible repeat (first | refine blk_drewN ?_ _ | refine blk_drew ?_ | refine blk_alloc ?_ _)); refine blk_put (cs := #[.int .i64 0, .int .i64 0, .int .i64 0, .slice none 0 0]) ?_ 0 _ rfl; (with_reducible repeat (first | refine blk_drewN ?_ _ | refine blk_drew ?_ | refine blk_alloc ?_ _)); exact BK114002.out) Try.underlying27 rfl (by kernel_rfl)) rfl ?_
  exact ⟨_, by first | rfl | (simp [errW_none, errW_some] <;> rfl) | (simp [*, errW_none, errW_some] <;> rfl), by (with_reducible repeat (first | apply Kd.R_alloc | apply Kd.R_drewN | apply Kd.R_drew)); exact Kd.R_mono (Kd.R_far (p := ⟨gb114002, 3, none⟩) (Kd.R_far (p := ⟨gb114002, 2, none⟩) (Kd.R_far (p := ⟨gb114002, 1, none⟩) (Kd.R_far (p := ⟨gb114002, 0, none⟩) (Kd.R_types HO114005.out BK114002.out (by decide)) (fun _ hk => hk.2) (.int .i64 a0_0)) (fun _ hk => hk.2) (.int .i64 a0_1)) (fun _ hk => hk.2) (.int .i64 a0_2)) (fun _ hk => hk.2) (.slice Ao7 t114003.length co7)) (fun _ hk => trivial), by repeat (first | (with_reducible first | exact HB.out | apply below_alloc | apply pw_below_drewN | apply below_drew1 | refine below_set ?_ GE114001.out | refine below_set ?_ GE114002.out) | exact HB.out)⟩


def spec_onImage.f (a0_0 : Int) (a0_1 : Int) (a0_2 : Int) (l0_3 : List Int) (a1 : Int) (a2 : Int) : Option (Bool) := (spec_inRange.f a1 0 (wrap64 (a0_0 - 1))).bind fun t145002 => (if t145002 = true then ((spec_inRange.f a2 0 (wrap64 (a0_1 - 1))).bind fun t145003 => (some t145003)) else (some false))
set_option maxHeartbeats 8000000 in
set_option maxRecDepth 100000 in
theorem spec_onImage.calls (a0_0 : Int) (a0_1 : Int) (a0_2 : Int) (A0_3 : Option Addr) (c0_3 : Nat) (l0_3 : List Int) (a1 : Int) (a2 : Int) (r : Bool) (w : World) (hr0_3 : Kd.C (Kd.int .i64) w A0_3 l0_3.length l0_3) (hc0_3 : l0_3.length ≤ c0_3) (h : spec_onImage.f a0_0 a0_1 a0_2 l0_3 a1 a2 = some r) :
    Calls Try.prog 144 #[.agg #[.int .i64 a0_0, .int .i64 a0_1, .int .i64 a0_2, .slice A0_3 l0_3.length c0_3], .int .i64 a1, .int .i64 a2] w fun e w' => e = .returned (.bool r) ∧ Below w.heap.size w w' := by
  have hu27 := Try.underlying27
  have HR0_3 := Aside0.mk hr0_3
  have HC0_3 := Aside0.mk hc0_3
  clear hr0_3 hc0_3
  have HB := Aside0.mk (Below.refl w.heap.size w)
  have H : ((spec_inRange.f a1 0 (wrap64 (a0_0 - 1))).bind fun t145002 => (if t145002 = true then ((spec_inRange.f a2 0 (wrap64 (a0_1 - 1))).bind fun t145003 => (some t145003)) else (some false))) = some r := h
  clear h
  replace H := Option.bind_eq_some_iff.mp H
  obtain ⟨t145002, A40, H⟩ := H
  replace H : (if t145002 = true then ((spec_inRange.f a2 0 (wrap64 (a0_1 - 1))).bind fun t145003 => (some t145003)) else (some false)) = some r := H
  have A4 := Aside0.mk A40
  clear A40
  by_cases c5 : t145002 = true
  · subst c5
    have H1 : ((spec_inRange.f a2 0 (wrap64 (a0_1 - 1))).bind fun t145003 => (some t145003)) = some r := by rw [if_pos rfl] at H; exact H
    clear H
    have H := H1
    clear H1
    replace H := Option.bind_eq_some_iff.mp H
    obtain ⟨t145003, A60, H⟩ := H
    replace H : (some t145003) = some r := H
    have A6 := Aside0.mk A60
    clear A60
    obtain rfl := Option.some.inj H
    go_enter Try.func144, Try.ntmps144
    go_wp2_with (first | ((with_reducible refine gate_dst (N := 3) rfl ?_); refine box_event ?hg (N := 3) ?hd (cs := #[.int .i64 a0_0, .int .i64 a0_1, .int .i64 a0_2, .slice A0_3 l0_3.length c0_3]) (t := 27) ?hr ?_; (case hd => rfl); (case hg => rfl); (case hr => first | (go_simp; done) | (go_simp; rfl)); intro gb145001 hg w7 hbox hb; have n0_ := Aside0.mk (below_step (by repeat (first | (with_reducible first | exact HB.out | apply below_alloc | apply pw_below_drewN | apply below_drew1) | exact HB.out)) hb); have n1_ := Aside0.mk (hbox); have n2_ := Aside0.mk ((by rw [hg]; exact (below_size (by repeat (first | (with_reducible first | exact HB.out | apply below_alloc | apply pw_below_drewN | apply below_drew1) | exact HB.out))) : w.heap.size ≤ gb145001)); have n3_ := Aside0.mk ((by rw [hg]; exact (below_size (by repeat (first | (with_reducible first | exact HB.out | apply below_alloc | apply pw_below_drewN | apply below_drew1) | exact HB.out))) : w.heap.size ≤ gb145001)); clear HB; have HB := n0_; have BK145001 := n1_; have GW145001 := n2_; have GE145001 := n3_; clear n0_ n1_ n2_ n3_; clear hb hbox hg; have hcz8_0 : w7.cell? ⟨gb145001, 0, none⟩ = some (.int .i64 a0_0) := (blk_cell BK145001.out 0).trans rfl; have hcz8_1 : w7.cell? ⟨gb145001, 1, none⟩ = some (.int .i64 a0_1) := (blk_cell BK145001.out 1).trans rfl; have hcz8_2 : w7.cell? ⟨gb145001, 2, none⟩ = some (.int .i64 a0_2) := (blk_cell BK145001.out 2).trans rfl; have hcz8_3 : w7.cell? ⟨gb145001, 3, none⟩ = some (.slice A0_3 l0_3.length c0_3) := (blk_cell BK145001.out 3).trans rfl; have hfz8_0 := blk_frozen BK145001.out 0; have hfz8_1 := blk_frozen BK145001.out 1; have hfz8_2 := blk_frozen BK145001.out 2; have hfz8_3 := blk_frozen BK145001.out 3) | ((with_reducible refine gate_callee (f := 110) rfl ?_); refine goesL_ (some 11) rfl rfl Try.func110 (by kernel_rfl) rfl #[.int .i64 a1, .int .i64 0, .int .i64 (wrap64 (a0_0 - 1))] rfl (by (try simp only [List.map_toArray, List.map_cons, List.map_nil]); first | done | rfl | (simp only [List.length_drop, List.length_take]; rfl)) ?_; (with_reducible refine (spec_inRange.calls a1 0 (wrap64 (a0_0 - 1)) true _ A4.out).mono ?_); rintro e w' ⟨rfl, ⟨nd, rfl⟩⟩; refine ⟨_, rfl, ?_⟩) | (go_at_call 110; (with_reducible refine (spec_inRange.calls a2 0 (wrap64 (a0_1 - 1)) t145003 _ A6.out).mono ?_); rintro e w' ⟨rfl, ⟨nd, rfl⟩⟩))
    go_ret
    exact ⟨by first | rfl | (simp [errW_none, errW_some] <;> rfl) | (simp [*, errW_none, errW_some] <;> rfl), by repeat (first | (with_reducible first | exact HB.out | apply below_alloc | apply pw_below_drewN | apply below_drew1 | refine below_set ?_ GE145001.out) | exact HB.out)⟩
  · replace c5 := Bool.eq_false_iff.mpr c5
    subst c5
    have H1 : (some false) = some r := by rw [if_neg (show ¬ (false = true) by decide)] at H; exact H
    clear H
    have H := H1
    clear H1
    obtain rfl := Option.some.inj H
    go_enter Try.func144, Try.ntmps144
    go_wp2_with (first | ((with_reducible refine gate_dst (N := 3) rfl ?_); refine box_event ?hg (N := 3) ?hd (cs := #[.int .i64 a0_0, .int .i64 a0_1, .int .i64 a0_2, .slice A0_3 l0_3.length c0_3]) (t := 27) ?hr ?_; (case hd => rfl); (case hg => rfl); (case hr => first | (go_simp; done) | (go_simp; rfl)); intro gb145001 hg w9 hbox hb; have n0_ := Aside0.mk (below_step (by repeat (first | (with_reducible first | exact HB.out | apply below_alloc | apply pw_below_drewN | apply below_drew1) | exact HB.out)) hb); have n1_ := Aside0.mk (hbox); have n2_ := Aside0.mk ((by rw [hg]; exact (below_size (by repeat (first | (with_reducible first | exact HB.out | apply below_alloc | apply pw_below_drewN | apply below_drew1) | exact HB.out))) : w.heap.size ≤ gb145001)); have n3_ := Aside0.mk ((by rw [hg]; exact (below_size (by repeat (first | (with_reducible first | exact HB.out | apply below_alloc | apply pw_below_drewN | apply below_drew1) | exact HB.out))) : w.heap.size ≤ gb145001)); clear HB; have HB := n0_; have BK145001 := n1_; have GW145001 := n2_; have GE145001 := n3_; clear n0_ n1_ n2_ n3_; clear hb hbox hg; have hcz10_0 : w9.cell? ⟨gb145001, 0, none⟩ = some (.int .i64 a0_0) := (blk_cell BK145001.out 0).trans rfl; have hcz10_1 : w9.cell? ⟨gb145001, 1, none⟩ = some (.int .i64 a0_1) := (blk_cell BK145001.out 1).trans rfl; have hcz10_2 : w9.cell? ⟨gb145001, 2, none⟩ = some (.int .i64 a0_2) := (blk_cell BK145001.out 2).trans rfl; have hcz10_3 : w9.cell? ⟨gb145001, 3, none⟩ = some (.slice A0_3 l0_3.length c0_3) := (blk_cell BK145001.out 3).trans rfl; have hfz10_0 := blk_frozen BK145001.out 0; have hfz10_1 := blk_frozen BK145001.out 1; have hfz10_2 := blk_frozen BK145001.out 2; have hfz10_3 := blk_frozen BK145001.out 3) | ((with_reducible refine gate_callee (f := 110) rfl ?_); refine goesL_ (some 11) rfl rfl Try.func110 (by kernel_rfl) rfl #[.int .i64 a1, .int .i64 0, .int .i64 (wrap64 (a0_0 - 1))] rfl (by (try simp only [List.map_toArray, List.map_cons, List.map_nil]); first | done | rfl | (simp only [List.length_drop, List.length_take]; rfl)) ?_; (with_reducible refine (spec_inRange.calls a1 0 (wrap64 (a0_0 - 1)) false _ A4.out).mono ?_); rintro e w' ⟨rfl, ⟨nd, rfl⟩⟩; refine ⟨_, rfl, ?_⟩))
    go_ret
    exact ⟨by first | rfl | (simp [errW_none, errW_some] <;> rfl) | (simp [*, errW_none, errW_some] <;> rfl), by repeat (first | (with_reducible first | exact HB.out | apply below_alloc | apply pw_below_drewN | apply below_drew1 | refine below_set ?_ GE145001.out) | exact HB.out)⟩


def spec_mix.f (a0 : Int) (a1 : Int) (a2 : Int) : Option (Int) := if a0 = 1 then (some (wrap64 (Int.tdiv (wrap64 ((wrap64 ((wrap64 (2 * a1)) * a2)) + 255)) 510))) else (if a0 = 2 then (some (wrap64 (255 - (wrap64 (Int.tdiv (wrap64 ((wrap64 ((wrap64 (2 * (wrap64 (255 - a1)))) * (wrap64 (255 - a2)))) + 255)) 510))))) else (if a0 = 3 then (some (mn a1 a2)) else (if a0 = 4 then (some (mx a1 a2)) else (some a2))))
set_option maxHeartbeats 8000000 in
set_option maxRecDepth 100000 in
theorem spec_mix.calls (a0 : Int) (a1 : Int) (a2 : Int) (r : Int) (w : World) (h : spec_mix.f a0 a1 a2 = some r) :
    Calls Try.prog 157 #[.int .i64 a0, .int .i64 a1, .int .i64 a2] w fun e w' => e = .returned (.int .i64 r) ∧ Below w.heap.size w w' := by
  have HB := Aside0.mk (Below.refl w.heap.size w)
  have H : (if a0 = 1 then (some (wrap64 (Int.tdiv (wrap64 ((wrap64 ((wrap64 (2 * a1)) * a2)) + 255)) 510))) else (if a0 = 2 then (some (wrap64 (255 - (wrap64 (Int.tdiv (wrap64 ((wrap64 ((wrap64 (2 * (wrap64 (255 - a1)))) * (wrap64 (255 - a2)))) + 255)) 510))))) else (if a0 = 3 then (some (mn a1 a2)) else (if a0 = 4 then (some (mx a1 a2)) else (some a2))))) = some r := h
  clear h
  by_cases c4 : a0 = 1
  · rw [if_pos c4] at H
    have c4b0 : (a0 == 1) = true := beq_iff_eq.mpr c4
    have c4b1 : (a0 != 1) = false := bne_eq_false_iff_eq.mpr c4
    clear c4
    obtain rfl := Option.some.inj H
    go_enter Try.func157, Try.ntmps157
    go_wp2
    go_ret
    exact ⟨by first | rfl | (simp [errW_none, errW_some] <;> rfl) | (simp [*, errW_none, errW_some] <;> rfl), by repeat (first | (with_reducible first | exact HB.out | apply below_alloc | apply pw_below_drewN | apply below_drew1) | exact HB.out)⟩
  · rw [if_neg c4] at H
    have c4b0 : (a0 == 1) = false := beq_eq_false_iff_ne.mpr c4
    have c4b1 : (a0 != 1) = true := bne_iff_ne.mpr c4
    by_cases c5 : a0 = 2
    · rw [if_pos c5] at H
      have c5b0 : (a0 == 2) = true := beq_iff_eq.mpr c5
      have c5b1 : (a0 != 2) = false := bne_eq_false_iff_eq.mpr c5
      clear c5
      obtain rfl := Option.some.inj H
      go_enter Try.func157, Try.ntmps157
      go_wp2
      go_ret
      exact ⟨by first | rfl | (simp [errW_none, errW_some] <;> rfl) | (simp [*, errW_none, errW_some] <;> rfl), by repeat (first | (with_reducible first | exact HB.out | apply below_alloc | apply pw_below_drewN | apply below_drew1) | exact HB.out)⟩
    · rw [if_neg c5] at H
      have c5b0 : (a0 == 2) = false := beq_eq_false_iff_ne.mpr c5
      have c5b1 : (a0 != 2) = true := bne_iff_ne.mpr c5
      by_cases c6 : a0 = 3
      · rw [if_pos c6] at H
        have c6b0 : (a0 == 3) = true := beq_iff_eq.mpr c6
        have c6b1 : (a0 != 3) = false := bne_eq_false_iff_eq.mpr c6
        clear c6
        obtain ⟨ji7, hji7⟩ : ∃ j_ : Int, (mn a1 a2) = j_ := ⟨_, rfl⟩
        replace H : (some ji7) = some r := by first | (rw [hji7] at H; exact H) | (simp only [hji7] at H ⊢; exact H)
        have hji7_ : (if a2 < a1 then a2 else a1) = ji7 := hji7
        obtain rfl := Option.some.inj H
        go_enter Try.func157, Try.ntmps157
        go_wp2
        go_ret
        exact ⟨by first | rfl | (simp [errW_none, errW_some] <;> rfl) | (simp only [← hji7]; first | rfl | (simp [errW_none, errW_some] <;> rfl)) | (simp [*, errW_none, errW_some] <;> rfl), by repeat (first | (with_reducible first | exact HB.out | apply below_alloc | apply pw_below_drewN | apply below_drew1) | exact HB.out)⟩
      · rw [if_neg c6] at H
        have c6b0 : (a0 == 3) = false := beq_eq_false_iff_ne.mpr c6
        have c6b1 : (a0 != 3) = true := bne_iff_ne.mpr c6
        by_cases c8 : a0 = 4
        · rw [if_pos c8] at H
          have c8b0 : (a0 == 4) = true := beq_iff_eq.mpr c8
          have c8b1 : (a0 != 4) = false := bne_eq_false_iff_eq.mpr c8
          clear c8
          obtain ⟨ji9, hji9⟩ : ∃ j_ : Int, (mx a1 a2) = j_ := ⟨_, rfl⟩
          replace H : (some ji9) = some r := by first | (rw [hji9] at H; exact H) | (simp only [hji9] at H ⊢; exact H)
          have hji9_ : (if a1 < a2 then a2 else a1) = ji9 := hji9
          obtain rfl := Option.some.inj H
          go_enter Try.func157, Try.ntmps157
          go_wp2
          go_ret
          exact ⟨by first | rfl | (simp [errW_none, errW_some] <;> rfl) | (simp only [← hji9]; first | rfl | (simp [errW_none, errW_some] <;> rfl)) | (simp [*, errW_none, errW_some] <;> rfl), by repeat (first | (with_reducible first | exact HB.out | apply below_alloc | apply pw_below_drewN | apply below_drew1) | exact HB.out)⟩
        · rw [if_neg c8] at H
          have c8b0 : (a0 == 4) = false := beq_eq_false_iff_ne.mpr c8
          have c8b1 : (a0 != 4) = true := bne_iff_ne.mpr c8
          obtain rfl := Option.some.inj H
          go_enter Try.func157, Try.ntmps157
          go_wp2
          go_ret
          exact ⟨by first | rfl | (simp [errW_none, errW_some] <;> rfl) | (simp [*, errW_none, errW_some] <;> rfl), by repeat (first | (with_reducible first | exact HB.out | apply below_alloc | apply pw_below_drewN | apply below_drew1) | exact HB.out)⟩


def spec_blend.f (a0 : Int) (a1 : Int) (a2 : Int) (a3 : Int) : Option (Int) := (spec_mix.f a0 a1 a2).bind fun t146001 => (some (wrap64 (Int.tdiv (wrap64 ((wrap64 (2 * (wrap64 ((wrap64 (a3 * t146001)) + (wrap64 ((wrap64 (255 - a3)) * a1)))))) + 255)) 510)))
set_option maxHeartbeats 8000000 in
set_option maxRecDepth 100000 in
theorem spec_blend.calls (a0 : Int) (a1 : Int) (a2 : Int) (a3 : Int) (r : Int) (w : World) (h : spec_blend.f a0 a1 a2 a3 = some r) :
    Calls Try.prog 145 #[.int .i64 a0, .int .i64 a1, .int .i64 a2, .int .i64 a3] w fun e w' => e = .returned (.int .i64 r) ∧ Below w.heap.size w w' := by
  have HB := Aside0.mk (Below.refl w.heap.size w)
  have H : ((spec_mix.f a0 a1 a2).bind fun t146001 => (some (wrap64 (Int.tdiv (wrap64 ((wrap64 (2 * (wrap64 ((wrap64 (a3 * t146001)) + (wrap64 ((wrap64 (255 - a3)) * a1)))))) + 255)) 510)))) = some r := h
  clear h
  replace H := Option.bind_eq_some_iff.mp H
  obtain ⟨t146001, A50, H⟩ := H
  replace H : (some (wrap64 (Int.tdiv (wrap64 ((wrap64 (2 * (wrap64 ((wrap64 (a3 * t146001)) + (wrap64 ((wrap64 (255 - a3)) * a1)))))) + 255)) 510))) = some r := H
  have A5 := Aside0.mk A50
  clear A50
  obtain rfl := Option.some.inj H
  go_enter Try.func145, Try.ntmps145
  go_wp2_with (first | ((with_reducible refine gate_callee (f := 157) rfl ?_); refine goesL_ (some 14) rfl rfl Try.func157 (by kernel_rfl) rfl #[.int .i64 a0, .int .i64 a1, .int .i64 a2] rfl (by (try simp only [List.map_toArray, List.map_cons, List.map_nil]); first | done | rfl | (simp only [List.length_drop, List.length_take]; rfl)) ?_; (with_reducible refine (spec_mix.calls a0 a1 a2 t146001 _ A5.out).mono ?_); rintro e w6 ⟨rfl, hb⟩; refine ⟨_, rfl, ?_⟩; have n0_ := Aside0.mk (below_step (by repeat (first | (with_reducible first | exact HB.out | apply below_alloc | apply pw_below_drewN | apply below_drew1) | exact HB.out)) hb); clear HB; have HB := n0_; clear n0_; (try clear hb); (try clear hb2); (try clear hk); (try clear hi)))
  go_ret
  exact ⟨by first | rfl | (simp [errW_none, errW_some] <;> rfl) | (simp [*, errW_none, errW_some] <;> rfl), by repeat (first | (with_reducible first | exact HB.out | apply below_alloc | apply pw_below_drewN | apply below_drew1) | exact HB.out)⟩


mutual
def spec_blendPaste.l0 : Nat → Int → Int → Int → Int → List Int → Int → Int → Int → List Int → Int → Int → Int → Int → Bool → Option (List Int)
  | 0, _, _, _, _, _, _, _, _, _, _, _, _, _, _ => none
  | k + 1, x4, x115002000, x115002001, x115002002, x115002003, x115003000, x115003001, x115003002, x115003003, x115003004, x115003005, x115003006, x115003007, x115003008 => if x4 < x115003001 then (spec_blendPaste.l1 k x4 0 x115002000 x115002001 x115002002 x115002003 x115003000 x115003001 x115003002 x115003003 x115003004 x115003005 x115003006 x115003007 x115003008) else (some x115002003)
def spec_blendPaste.l1 : Nat → Int → Int → Int → Int → Int → List Int → Int → Int → Int → List Int → Int → Int → Int → Int → Bool → Option (List Int)
  | 0, _, _, _, _, _, _, _, _, _, _, _, _, _, _, _ => none
  | k + 1, x4, x5, x115002000, x115002001, x115002002, x115002003, x115003000, x115003001, x115003002, x115003003, x115003004, x115003005, x115003006, x115003007, x115003008 => if x5 < x115003000 then ((spec_onImage.f x115002000 x115002001 x115002002 x115002003 (wrap64 (x115003004 + x5)) (wrap64 (x115003005 + x4))).bind fun t115003 => (if t115003 = true then (spec_blendPaste.l2 k x4 x5 0 x115002000 x115002001 x115002002 x115002003 x115003000 x115003001 x115003002 x115003003 x115003004 x115003005 x115003006 x115003007 x115003008) else (spec_blendPaste.l1 k x4 (wrap64 (x5 + 1)) x115002000 x115002001 x115002002 x115002003 x115003000 x115003001 x115003002 x115003003 x115003004 x115003005 x115003006 x115003007 x115003008))) else (spec_blendPaste.l0 k (wrap64 (x4 + 1)) x115002000 x115002001 x115002002 x115002003 x115003000 x115003001 x115003002 x115003003 x115003004 x115003005 x115003006 x115003007 x115003008)
def spec_blendPaste.l2 : Nat → Int → Int → Int → Int → Int → Int → List Int → Int → Int → Int → List Int → Int → Int → Int → Int → Bool → Option (List Int)
  | 0, _, _, _, _, _, _, _, _, _, _, _, _, _, _, _, _ => none
  | k + 1, x4, x5, x6, x115002000, x115002001, x115002002, x115002003, x115003000, x115003001, x115003002, x115003003, x115003004, x115003005, x115003006, x115003007, x115003008 => if x6 < x115002002 then (if 0 ≤ (wrap64 ((wrap64 ((wrap64 ((wrap64 ((wrap64 ((wrap64 (x115003005 + x4)) * x115002000)) + x115003004)) + x5)) * x115002002)) + x6)) then (if (wrap64 ((wrap64 ((wrap64 ((wrap64 ((wrap64 ((wrap64 (x115003005 + x4)) * x115002000)) + x115003004)) + x5)) * x115002002)) + x6)) < (x115002003.length : Int) then (if 0 ≤ (wrap64 ((wrap64 ((wrap64 ((wrap64 (x4 * x115003000)) + x5)) * x115002002)) + x6)) then (if (wrap64 ((wrap64 ((wrap64 ((wrap64 (x4 * x115003000)) + x5)) * x115002002)) + x6)) < (x115003003.length : Int) then ((spec_blend.f x115003006 (rd x115002003 (wrap64 ((wrap64 ((wrap64 ((wrap64 ((wrap64 ((wrap64 (x115003005 + x4)) * x115002000)) + x115003004)) + x5)) * x115002002)) + x6))) (rd x115003003 (wrap64 ((wrap64 ((wrap64 ((wrap64 (x4 * x115003000)) + x5)) * x115002002)) + x6))) x115003007).bind fun t115006 => (spec_blendPaste.l2 k x4 x5 (wrap64 (x6 + 1)) x115002000 x115002001 x115002002 (x115002003.set ((wrap64 ((wrap64 ((wrap64 ((wrap64 ((wrap64 ((wrap64 (x115003005 + x4)) * x115002000)) + x115003004)) + x5)) * x115002002)) + x6)) : Int).toNat t115006) x115003000 x115003001 x115003002 x115003003 x115003004 x115003005 x115003006 x115003007 x115003008)) else none) else none) else none) else none) else (spec_blendPaste.l1 k x4 (wrap64 (x5 + 1)) x115002000 x115002001 x115002002 x115002003 x115003000 x115003001 x115003002 x115003003 x115003004 x115003005 x115003006 x115003007 x115003008)
end
def spec_blendPaste.f (k : Nat) (a0_0 : Int) (a0_1 : Int) (a0_2 : Int) (l0_3 : List Int) (a1_0 : Int) (a1_1 : Int) (a1_2 : Int) (l1_3 : List Int) (a1_4 : Int) (a1_5 : Int) (a1_6 : Int) (a1_7 : Int) (a1_8 : Bool) : Option (List Int) := spec_blendPaste.l0 k 0 a0_0 a0_1 a0_2 l0_3 a1_0 a1_1 a1_2 l1_3 a1_4 a1_5 a1_6 a1_7 a1_8
theorem spec_blendPaste.mono_l : ∀ k, (∀ y0 y1 y2 y3 y4 y5 y6 y7 y8 y9 y10 y11 y12 y13, LeO (spec_blendPaste.l0 k y0 y1 y2 y3 y4 y5 y6 y7 y8 y9 y10 y11 y12 y13) (spec_blendPaste.l0 (k + 1) y0 y1 y2 y3 y4 y5 y6 y7 y8 y9 y10 y11 y12 y13)) ∧ (∀ y0 y1 y2 y3 y4 y5 y6 y7 y8 y9 y10 y11 y12 y13 y14, LeO (spec_blendPaste.l1 k y0 y1 y2 y3 y4 y5 y6 y7 y8 y9 y10 y11 y12 y13 y14) (spec_blendPaste.l1 (k + 1) y0 y1 y2 y3 y4 y5 y6 y7 y8 y9 y10 y11 y12 y13 y14)) ∧ (∀ y0 y1 y2 y3 y4 y5 y6 y7 y8 y9 y10 y11 y12 y13 y14 y15, LeO (spec_blendPaste.l2 k y0 y1 y2 y3 y4 y5 y6 y7 y8 y9 y10 y11 y12 y13 y14 y15) (spec_blendPaste.l2 (k + 1) y0 y1 y2 y3 y4 y5 y6 y7 y8 y9 y10 y11 y12 y13 y14 y15))
  | 0 => ⟨fun _ _ _ _ _ _ _ _ _ _ _ _ _ _ r h => by simp [spec_blendPaste.l0] at h, fun _ _ _ _ _ _ _ _ _ _ _ _ _ _ _ r h => by simp [spec_blendPaste.l1] at h, fun _ _ _ _ _ _ _ _ _ _ _ _ _ _ _ _ r h => by simp [spec_blendPaste.l2] at h⟩
  | k + 1 => by
    obtain ⟨ih0, ih1, ih2⟩ := spec_blendPaste.mono_l k
    refine ⟨?_, ?_, ?_⟩
    · intro y0 y1 y2 y3 y4 y5 y6 y7 y8 y9 y10 y11 y12 y13
      unfold spec_blendPaste.l0
      repeat' first | (with_reducible exact ih1 _ _ _ _ _ _ _ _ _ _ _ _ _ _ _) | (with_reducible exact LeO.refl _) | (with_reducible refine LeO.ite ?_ ?_)
    · intro y0 y1 y2 y3 y4 y5 y6 y7 y8 y9 y10 y11 y12 y13 y14
      unfold spec_blendPaste.l1
      repeat' first | (with_reducible exact ih0 _ _ _ _ _ _ _ _ _ _ _ _ _ _) | (with_reducible exact ih1 _ _ _ _ _ _ _ _ _ _ _ _ _ _ _) | (with_reducible exact ih2 _ _ _ _ _ _ _ _ _ _ _ _ _ _ _ _) | (with_reducible exact LeO.refl _) | (with_reducible refine LeO.ite ?_ ?_) | (with_reducible refine LeO.bind ?_ (fun _ => ?_))
    · intro y0 y1 y2 y3 y4 y5 y6 y7 y8 y9 y10 y11 y12 y13 y14 y15
      unfold spec_blendPaste.l2
      repeat' first | (with_reducible exact ih1 _ _ _ _ _ _ _ _ _ _ _ _ _ _ _) | (with_reducible exact ih2 _ _ _ _ _ _ _ _ _ _ _ _ _ _ _ _) | (with_reducible exact LeO.refl _) | (with_reducible refine LeO.ite ?_ ?_) | (with_reducible refine LeO.bind ?_ (fun _ => ?_))
theorem spec_blendPaste.mono : ∀ a0 a1 a2 a3 a4 a5 a6 a7 a8 a9 a10 a11 a12 k, LeO (spec_blendPaste.f k a0 a1 a2 a3 a4 a5 a6 a7 a8 a9 a10 a11 a12) (spec_blendPaste.f (k + 1) a0 a1 a2 a3 a4 a5 a6 a7 a8 a9 a10 a11 a12) := by
  intro a0 a1 a2 a3 a4 a5 a6 a7 a8 a9 a10 a11 a12 k
  obtain ⟨ih0, ih1, ih2⟩ := spec_blendPaste.mono_l k
  unfold spec_blendPaste.f
  repeat' (with_reducible exact ih0 _ _ _ _ _ _ _ _ _ _ _ _ _ _)
def spec_blendPaste.T12 : Bool × List (List Nat × List Nat) := (true, [([], []), ([0], [0]), ([], []), ([], []), ([3], [3]), ([], []), ([5], [5]), ([], []), ([6, 7], [6, 7]), ([8], [8]), ([], []), ([10], [10]), ([11], [11]), ([], []), ([], []), ([14], [14]), ([15], [15]), ([13, 16], [13, 16]), ([], []), ([17, 18], [17, 18]), ([], []), ([20], [20]), ([19, 21], [19, 21]), ([], []), ([22, 23], [22, 23]), ([12, 24], [12, 24]), ([25], [25]), ([], []), ([27], [27]), ([4, 9, 26, 28], [4, 9, 26, 28]), ([1, 2, 0, 1, 2, 3, 4, 5, 6, 7, 8, 9, 10, 11, 12, 13, 14, 15, 16, 17, 18, 19, 20, 21, 22, 23, 24, 25, 26, 27, 28, 29], [1, 2]), ([30, 29, 29, 0, 1, 2, 3, 4, 5, 6, 7, 8, 9, 10, 11, 12, 13, 14, 15, 16, 17, 18, 19, 20, 21, 22, 23, 24, 25, 26, 27, 28, 29], [29, 30])])
def spec_blendPaste.B12 : List Nat := [0, 1, 0, 0, 8, 0, 32, 0, 224, 480, 0, 1024, 3072, 0, 0, 16384, 49152, 122880, 0, 516096, 0, 1048576, 4186112, 0, 16769024, 33553408, 67107840, 0, 134217728, 536870904, 1073741823, 2147483647]
theorem spec_blendPaste.tab12 : rtab .any (opsOf Try.f114 12) = spec_blendPaste.T12 := by kernel_rfl
theorem spec_blendPaste.bits12 : waitsOk spec_blendPaste.T12.2 spec_blendPaste.B12 = true := by kernel_rfl
set_option maxHeartbeats 8000000 in
set_option maxRecDepth 100000 in
theorem spec_blendPaste.calls (k : Nat) (a0_0 : Int) (a0_1 : Int) (a0_2 : Int) (P0_3_ : Nat → Prop) (u9000_ : Value) (l0_3 : List Int) (a1_0 : Int) (a1_1 : Int) (a1_2 : Int) (A1_3 : Option Addr) (c1_3 : Nat) (l1_3 : List Int) (a1_4 : Int) (a1_5 : Int) (a1_6 : Int) (a1_7 : Int) (a1_8 : Bool) (r : List Int) (w0 w : World) (hB : Below w0.heap.size w0 w) (ho0_3 : Kd.R (Kd.int .i64) 3 w w0.heap.size P0_3_ u9000_ l0_3) (hr1_3 : ∀ W_, Kept w W_ (fun k_ => P0_3_ k_) → Kd.C (Kd.int .i64) W_ A1_3 l1_3.length l1_3) (hc1_3 : l1_3.length ≤ c1_3) (h : spec_blendPaste.f k a0_0 a0_1 a0_2 l0_3 a1_0 a1_1 a1_2 l1_3 a1_4 a1_5 a1_6 a1_7 a1_8 = some r) :
    Calls Try.prog 114 #[.agg #[.int .i64 a0_0, .int .i64 a0_1, .int .i64 a0_2, u9000_], .agg #[.int .i64 a1_0, .int .i64 a1_1, .int .i64 a1_2, .slice A1_3 l1_3.length c1_3, .int .i64 a1_4, .int .i64 a1_5, .int .i64 a1_6, .int .i64 a1_7, .bool a1_8]] w fun e w' => e = .returned (.tuple #[]) ∧ Kd.R (Kd.int .i64) 3 w' w0.heap.size (fun k_ => (P0_3_ k_ ∨ w.heap.size ≤ k_)) u9000_ r ∧ Below w0.heap.size w0 w' ∧ Kept w w' (fun k_ => P0_3_ k_) := by
  have hu27 := Try.underlying27
  have hu55 := Try.underlying55
  have HO0_3 := Aside0.mk (show Kd.R (Kd.int .i64) 3 w w0.heap.size (fun k_ => (P0_3_ k_ ∨ w.heap.size ≤ k_)) u9000_ l0_3 from Kd.R_mono ho0_3 (fun k_ hk => (.inl hk)))
  have HR1_3 := Aside0.mk hr1_3
  have HC1_3 := Aside0.mk hc1_3
  clear hr1_3 hc1_3
  have HK := Aside0.mk (Kept.refl w (fun k_ => P0_3_ k_))
  have HW0 := Aside0.mk hB.size
  have HB := Aside0.mk hB
  clear hB
  have H : (spec_blendPaste.l0 k 0 a0_0 a0_1 a0_2 l0_3 a1_0 a1_1 a1_2 l1_3 a1_4 a1_5 a1_6 a1_7 a1_8) = some r := h
  clear h
  have H' := Aside0.mk H
  clear H
  obtain ⟨Ao3, co3, eo3⟩ := Kd.R_slice HO0_3.out
  subst eo3
  go_enter Try.func114, Try.ntmps114
  go_wp2_with (first | ((with_reducible refine gate_dst (N := 2) rfl ?_); refine box_event ?hg (N := 2) ?hd (cs := #[.int .i64 a0_0, .int .i64 a0_1, .int .i64 a0_2, .slice Ao3 l0_3.length co3]) (t := 27) ?hr ?_; (case hd => rfl); (case hg => rfl); (case hr => (go_simp; done)); intro gb115001 hg w4 hbox hb; have n0_ := Aside0.mk (Kd.R_below HO0_3.out hb); have n1_ := Aside0.mk (Kept.below (S := (fun k_ => P0_3_ k_)) HK.out hb); have n2_ := Aside0.mk (below_step HB.out hb); have n3_ := Aside0.mk (hbox); have n4_ := Aside0.mk (by rw [hg]; exact HK.out.1 : w.heap.size ≤ gb115001); have n5_ := Aside0.mk ((by rw [hg]; exact (below_size HB.out) : w0.heap.size ≤ gb115001)); clear HO0_3; clear HK; clear HB; have HO0_3 := n0_; have HK := n1_; have HB := n2_; have BK115001 := n3_; have GW115001 := n4_; have GE115001 := n5_; clear n0_ n1_ n2_ n3_ n4_ n5_; clear hb hbox hg) | ((with_reducible refine gate_dst (N := 3) rfl ?_); refine box_event ?hg (N := 3) ?hd (cs := #[.int .i64 a1_0, .int .i64 a1_1, .int .i64 a1_2, .slice A1_3 l1_3.length c1_3, .int .i64 a1_4, .int .i64 a1_5, .int .i64 a1_6, .int .i64 a1_7, .bool a1_8]) (t := 55) ?hr ?_; (case hd => rfl); (case hg => rfl); (case hr => (go_simp; done)); intro gb115002 hg w5 hbox hb; have n0_ := Aside0.mk (Kd.R_below HO0_3.out hb); have n1_ := Aside0.mk (blk_below BK115001.out hb); have n2_ := Aside0.mk (Kept.below (S := (fun k_ => P0_3_ k_)) HK.out hb); have n3_ := Aside0.mk (below_step HB.out hb); have n4_ := Aside0.mk (hbox); have n5_ := Aside0.mk (by rw [hg]; exact HK.out.1 : w.heap.size ≤ gb115002); have n6_ := Aside0.mk ((by rw [hg]; exact (below_size HB.out) : w0.heap.size ≤ gb115002)); have n7_ := Aside0.mk ((by rw [hg]; exact Nat.ne_of_lt (blk_lt BK115001.out) : gb115001 ≠ gb115002)); have n8_ := Aside0.mk ((by rw [hg]; exact Nat.ne_of_gt (blk_lt BK115001.out) : gb115002 ≠ gb115001)); clear HO0_3; clear BK115001; clear HK; clear HB; have HO0_3 := n0_; have BK115001 := n1_; have HK := n2_; have HB := n3_; have BK115002 := n4_; have GW115002 := n5_; have GE115002 := n6_; have NB115001_115002 := n7_; have NB115002_115001 := n8_; clear n0_ n1_ n2_ n3_ n4_ n5_ n6_ n7_ n8_; clear hb hbox hg))
  go_loopg [4] k (fun kq v4 w' => ∃ (x4_1 : Int) (x115002003_1 : List Int), v4 = .int .i64 x4_1 ∧ Aside0 (spec_blendPaste.l0 kq x4_1 a0_0 a0_1 a0_2 x115002003_1 a1_0 a1_1 a1_2 l1_3 a1_4 a1_5 a1_6 a1_7 a1_8 = some r) ∧ Aside0 (kq ≤ k) ∧ Aside0 (Kd.R (Kd.int .i64) 3 w' w0.heap.size (fun k_ => (P0_3_ k_ ∨ w.heap.size ≤ k_)) (.slice Ao3 l0_3.length co3) x115002003_1) ∧ Aside0 (w'.heap[gb115001]? = some (.cells #[.int .i64 a0_0, .int .i64 a0_1, .int .i64 a0_2, (.slice Ao3 l0_3.length co3)] 27 (0, 0))) ∧ Aside0 (w'.heap[gb115002]? = some (.cells #[.int .i64 a1_0, .int .i64 a1_1, .int .i64 a1_2, (.slice A1_3 l1_3.length c1_3), .int .i64 a1_4, .int .i64 a1_5, .int .i64 a1_6, .int .i64 a1_7, .bool a1_8] 55 (0, 0))) ∧ Aside0 (Kept w w' (fun k_ => P0_3_ k_)) ∧ Aside0 (Below w0.heap.size w0 w'))
  case atStart => exact ⟨(0), (l0_3), (by rfl), H', ⟨Nat.le_refl _⟩, ⟨by (with_reducible repeat (first | apply Kd.R_alloc | apply Kd.R_drewN | apply Kd.R_drew)); exact HO0_3.out⟩, ⟨by (with_reducible repeat (first | refine blk_drewN ?_ _ | refine blk_drew ?_ | refine blk_alloc ?_ _)); exact BK115001.out⟩, ⟨by (with_reducible repeat (first | refine blk_drewN ?_ _ | refine blk_drew ?_ | refine blk_alloc ?_ _)); exact BK115002.out⟩, ⟨by exact HK.out⟩, ⟨by exact HB.out⟩⟩
  case round =>
    clear H'
    try clear c1
    try clear p2
    obtain ⟨x4_1, x115002003_1, rfl, HA, HK1, HO_115002003, BK115001, BK115002, HK, HB⟩ := hrel
    have hl115002003_1 := (Kd.R_reads' HO_115002003.out).1
    rw [hl115002003_1] at HO_115002003
    (try simp only [hl115002003_1])
    (try simp only [hl115002003_1] at BK115001)
    cases gk with
    | zero => exact absurd HA.out (by simp [spec_blendPaste.l0])
    | succ k1 =>
      have H := HA.out
      clear HA
      simp only [spec_blendPaste.l0] at H
      by_cases c6 : x4_1 < a1_1
      · rw [if_pos c6] at H
        have c6b0 : decide (x4_1 < a1_1) = true := decide_eq_true c6
        clear c6
        have H' := Aside0.mk H
        clear H
        have hnb7 := NB115002_115001.out
        have hnc7 := NB115001_115002.out
        have hcz8_0 : wr.cell? ⟨gb115002, 0, none⟩ = some (.int .i64 a1_0) := (blk_cell BK115002.out 0).trans rfl
        have hcz8_1 : wr.cell? ⟨gb115002, 1, none⟩ = some (.int .i64 a1_1) := (blk_cell BK115002.out 1).trans rfl
        have hcz8_2 : wr.cell? ⟨gb115002, 2, none⟩ = some (.int .i64 a1_2) := (blk_cell BK115002.out 2).trans rfl
        have hcz8_3 : wr.cell? ⟨gb115002, 3, none⟩ = some (.slice A1_3 l1_3.length c1_3) := (blk_cell BK115002.out 3).trans rfl
        have hcz8_4 : wr.cell? ⟨gb115002, 4, none⟩ = some (.int .i64 a1_4) := (blk_cell BK115002.out 4).trans rfl
        have hcz8_5 : wr.cell? ⟨gb115002, 5, none⟩ = some (.int .i64 a1_5) := (blk_cell BK115002.out 5).trans rfl
        have hcz8_6 : wr.cell? ⟨gb115002, 6, none⟩ = some (.int .i64 a1_6) := (blk_cell BK115002.out 6).trans rfl
        have hcz8_7 : wr.cell? ⟨gb115002, 7, none⟩ = some (.int .i64 a1_7) := (blk_cell BK115002.out 7).trans rfl
        have hcz8_8 : wr.cell? ⟨gb115002, 8, none⟩ = some (.bool a1_8) := (blk_cell BK115002.out 8).trans rfl
        have hfz8_0 := blk_frozen BK115002.out 0
        have hfz8_1 := blk_frozen BK115002.out 1
        have hfz8_2 := blk_frozen BK115002.out 2
        have hfz8_3 := blk_frozen BK115002.out 3
        have hfz8_4 := blk_frozen BK115002.out 4
        have hfz8_5 := blk_frozen BK115002.out 5
        have hfz8_6 := blk_frozen BK115002.out 6
        have hfz8_7 := blk_frozen BK115002.out 7
        have hfz8_8 := blk_frozen BK115002.out 8
        go_wp2
        go_loopg [5] k1 (fun kq v5 w' => ∃ (x5_2 : Int) (x115002003_2 : List Int), v5 = .int .i64 x5_2 ∧ Aside0 (spec_blendPaste.l1 kq x4_1 x5_2 a0_0 a0_1 a0_2 x115002003_2 a1_0 a1_1 a1_2 l1_3 a1_4 a1_5 a1_6 a1_7 a1_8 = some r) ∧ Aside0 (kq ≤ k1) ∧ Aside0 (Kd.R (Kd.int .i64) 3 w' w0.heap.size (fun k_ => (P0_3_ k_ ∨ w.heap.size ≤ k_)) (.slice Ao3 x115002003_1.length co3) x115002003_2) ∧ Aside0 (w'.heap[gb115001]? = some (.cells #[.int .i64 a0_0, .int .i64 a0_1, .int .i64 a0_2, (.slice Ao3 x115002003_1.length co3)] 27 (0, 0))) ∧ Aside0 (w'.heap[gb115002]? = some (.cells #[.int .i64 a1_0, .int .i64 a1_1, .int .i64 a1_2, (.slice A1_3 l1_3.length c1_3), .int .i64 a1_4, .int .i64 a1_5, .int .i64 a1_6, .int .i64 a1_7, .bool a1_8] 55 (0, 0))) ∧ Aside0 (Kept w w' (fun k_ => P0_3_ k_)) ∧ Aside0 (Below w0.heap.size w0 w'))
        case atStart => exact ⟨(0), (x115002003_1), (by rfl), H', ⟨Nat.le_refl _⟩, ⟨by (with_reducible repeat (first | apply Kd.R_alloc | apply Kd.R_drewN | apply Kd.R_drew)); exact HO_115002003.out⟩, ⟨by (with_reducible repeat (first | refine blk_drewN ?_ _ | refine blk_drew ?_ | refine blk_alloc ?_ _)); exact BK115001.out⟩, ⟨by (with_reducible repeat (first | refine blk_drewN ?_ _ | refine blk_drew ?_ | refine blk_alloc ?_ _)); exact BK115002.out⟩, ⟨by exact HK.out⟩, ⟨by exact HB.out⟩⟩
        case round =>
          clear H'
          try clear c1
          try clear p2
          try clear c6
          try clear c6b0
          try clear c7
          try clear hcz8_0
          try clear hcz8_1
          try clear hcz8_2
          try clear hcz8_3
          try clear hcz8_4
          try clear hcz8_5
          try clear hcz8_6
          try clear hcz8_7
          try clear hcz8_8
          try clear hfz8_0
          try clear hfz8_1
          try clear hfz8_2
          try clear hfz8_3
          try clear hfz8_4
          try clear hfz8_5
          try clear hfz8_6
          try clear hfz8_7
          try clear hfz8_8
          try clear p2
          obtain ⟨x5_2, x115002003_2, rfl, HA, HK2, HO_115002003, BK115001, BK115002, HK, HB⟩ := hrel
          have hl115002003_2 := (Kd.R_reads' HO_115002003.out).1
          rw [hl115002003_2] at HO_115002003
          (try simp only [hl115002003_2])
          (try simp only [hl115002003_2] at BK115001)
          cases gk with
          | zero => exact absurd HA.out (by simp [spec_blendPaste.l1])
          | succ k2 =>
            have H := HA.out
            clear HA
            simp only [spec_blendPaste.l1] at H
            by_cases c9 : x5_2 < a1_0
            · rw [if_pos c9] at H
              have c9b0 : decide (x5_2 < a1_0) = true := decide_eq_true c9
              clear c9
              replace H := Option.bind_eq_some_iff.mp H
              obtain ⟨t115003, A100, H⟩ := H
              replace H : (if t115003 = true then (spec_blendPaste.l2 k2 x4_1 x5_2 0 a0_0 a0_1 a0_2 x115002003_2 a1_0 a1_1 a1_2 l1_3 a1_4 a1_5 a1_6 a1_7 a1_8) else (spec_blendPaste.l1 k2 x4_1 (wrap64 (x5_2 + 1)) a0_0 a0_1 a0_2 x115002003_2 a1_0 a1_1 a1_2 l1_3 a1_4 a1_5 a1_6 a1_7 a1_8)) = some r := H
              have A10 := Aside0.mk A100
              clear A100
              by_cases c11 : t115003 = true
              · subst c11
                have H1 : (spec_blendPaste.l2 k2 x4_1 x5_2 0 a0_0 a0_1 a0_2 x115002003_2 a1_0 a1_1 a1_2 l1_3 a1_4 a1_5 a1_6 a1_7 a1_8) = some r := by rw [if_pos rfl] at H; exact H
                clear H
                have H := H1
                clear H1
                have H' := Aside0.mk H
                clear H
                have hnb12 := NB115002_115001.out
                have hnc12 := NB115001_115002.out
                have hcz13_0 : wr.cell? ⟨gb115002, 0, none⟩ = some (.int .i64 a1_0) := (blk_cell BK115002.out 0).trans rfl
                have hcz13_1 : wr.cell? ⟨gb115002, 1, none⟩ = some (.int .i64 a1_1) := (blk_cell BK115002.out 1).trans rfl
                have hcz13_2 : wr.cell? ⟨gb115002, 2, none⟩ = some (.int .i64 a1_2) := (blk_cell BK115002.out 2).trans rfl
                have hcz13_3 : wr.cell? ⟨gb115002, 3, none⟩ = some (.slice A1_3 l1_3.length c1_3) := (blk_cell BK115002.out 3).trans rfl
                have hcz13_4 : wr.cell? ⟨gb115002, 4, none⟩ = some (.int .i64 a1_4) := (blk_cell BK115002.out 4).trans rfl
                have hcz13_5 : wr.cell? ⟨gb115002, 5, none⟩ = some (.int .i64 a1_5) := (blk_cell BK115002.out 5).trans rfl
                have hcz13_6 : wr.cell? ⟨gb115002, 6, none⟩ = some (.int .i64 a1_6) := (blk_cell BK115002.out 6).trans rfl
                have hcz13_7 : wr.cell? ⟨gb115002, 7, none⟩ = some (.int .i64 a1_7) := (blk_cell BK115002.out 7).trans rfl
                have hcz13_8 : wr.cell? ⟨gb115002, 8, none⟩ = some (.bool a1_8) := (blk_cell BK115002.out 8).trans rfl
                have hfz13_0 := blk_frozen BK115002.out 0
                have hfz13_1 := blk_frozen BK115002.out 1
                have hfz13_2 := blk_frozen BK115002.out 2
                have hfz13_3 := blk_frozen BK115002.out 3
                have hfz13_4 := blk_frozen BK115002.out 4
                have hfz13_5 := blk_frozen BK115002.out 5
                have hfz13_6 := blk_frozen BK115002.out 6
                have hfz13_7 := blk_frozen BK115002.out 7
                have hfz13_8 := blk_frozen BK115002.out 8
                have hcz14_0 : wr.cell? ⟨gb115001, 0, none⟩ = some (.int .i64 a0_0) := (blk_cell BK115001.out 0).trans rfl
                have hcz14_1 : wr.cell? ⟨gb115001, 1, none⟩ = some (.int .i64 a0_1) := (blk_cell BK115001.out 1).trans rfl
                have hcz14_2 : wr.cell? ⟨gb115001, 2, none⟩ = some (.int .i64 a0_2) := (blk_cell BK115001.out 2).trans rfl
                have hcz14_3 : wr.cell? ⟨gb115001, 3, none⟩ = some (.slice Ao3 x115002003_2.length co3) := (blk_cell BK115001.out 3).trans rfl
                have hfz14_0 := blk_frozen BK115001.out 0
                have hfz14_1 := blk_frozen BK115001.out 1
                have hfz14_2 := blk_frozen BK115001.out 2
                have hfz14_3 := blk_frozen BK115001.out 3
                go_wp2_with (first | ((with_reducible refine gate_callee (f := 144) rfl ?_); refine goesL_ (some 31) rfl rfl Try.func144 (by kernel_rfl) rfl #[.agg #[.int .i64 a0_0, .int .i64 a0_1, .int .i64 a0_2, .slice Ao3 x115002003_2.length co3], .int .i64 (wrap64 (a1_4 + x5_2)), .int .i64 (wrap64 (a1_5 + x4_1))] rfl (by (try simp only [List.map_toArray, List.map_cons, List.map_nil]); rfl) ?_; (with_reducible refine (spec_onImage.calls a0_0 a0_1 a0_2 _ _ x115002003_2 (wrap64 (a1_4 + x5_2)) (wrap64 (a1_5 + x4_1)) true _ ?side1 ?side2 A10.out).mono ?_); (case side1 => repeat (exact (Kd.R_reads' HO_115002003.out).2.2)); (case side2 => exact (Kd.R_reads' HO_115002003.out).2.1); rintro e w15 ⟨rfl, hb⟩; refine ⟨_, rfl, ?_⟩; have n0_ := Aside0.mk (Kd.R_below HO_115002003.out hb); have n1_ := Aside0.mk (blk_below BK115001.out hb); have n2_ := Aside0.mk (blk_below BK115002.out hb); have n3_ := Aside0.mk (Kept.below (S := (fun k_ => P0_3_ k_)) HK.out hb); have n4_ := Aside0.mk (below_step HB.out hb); clear HO_115002003; clear BK115001; clear BK115002; clear HK; clear HB; have HO_115002003 := n0_; have BK115001 := n1_; have BK115002 := n2_; have HK := n3_; have HB := n4_; clear n0_ n1_ n2_ n3_ n4_; (try clear hb)))
                go_loopg [6] k2 (fun kq v6 w' => ∃ (x6_3 : Int) (x115002003_3 : List Int), v6 = .int .i64 x6_3 ∧ Aside0 (spec_blendPaste.l2 kq x4_1 x5_2 x6_3 a0_0 a0_1 a0_2 x115002003_3 a1_0 a1_1 a1_2 l1_3 a1_4 a1_5 a1_6 a1_7 a1_8 = some r) ∧ Aside0 (kq ≤ k2) ∧ Aside0 (Kd.R (Kd.int .i64) 3 w' w0.heap.size (fun k_ => (P0_3_ k_ ∨ w.heap.size ≤ k_)) (.slice Ao3 x115002003_2.length co3) x115002003_3) ∧ Aside0 (w'.heap[gb115001]? = some (.cells #[.int .i64 a0_0, .int .i64 a0_1, .int .i64 a0_2, (.slice Ao3 x115002003_2.length co3)] 27 (0, 0))) ∧ Aside0 (w'.heap[gb115002]? = some (.cells #[.int .i64 a1_0, .int .i64 a1_1, .int .i64 a1_2, (.slice A1_3 l1_3.length c1_3), .int .i64 a1_4, .int .i64 a1_5, .int .i64 a1_6, .int .i64 a1_7, .bool a1_8] 55 (0, 0))) ∧ Aside0 (Kept w w' (fun k_ => P0_3_ k_)) ∧ Aside0 (Below w0.heap.size w0 w'))
                case atStart => exact ⟨(0), (x115002003_2), (by rfl), H', ⟨Nat.le_refl _⟩, ⟨by (with_reducible repeat (first | apply Kd.R_alloc | apply Kd.R_drewN | apply Kd.R_drew)); exact HO_115002003.out⟩, ⟨by (with_reducible repeat (first | refine blk_drewN ?_ _ | refine blk_drew ?_ | refine blk_alloc ?_ _)); exact BK115001.out⟩, ⟨by (with_reducible repeat (first | refine blk_drewN ?_ _ | refine blk_drew ?_ | refine blk_alloc ?_ _)); exact BK115002.out⟩, ⟨by exact HK.out⟩, ⟨by exact HB.out⟩⟩
                case round =>
                  clear H'
                  try clear c1
                  try clear p2
                  try clear c6
                  try clear c6b0
                  try clear p6
                  try clear c7
                  try clear c9
                  try clear c9b0
                  try clear c11
                  try clear c12
                  try clear c14
                  try clear hcz13_0
                  try clear hcz13_1
                  try clear hcz13_2
                  try clear hcz13_3
                  try clear hcz13_4
                  try clear hcz13_5
                  try clear hcz13_6
                  try clear hcz13_7
                  try clear hcz13_8
                  try clear hcz14_0
                  try clear hcz14_1
                  try clear hcz14_2
                  try clear hcz14_3
                  try clear hcz8_0
                  try clear hcz8_1
                  try clear hcz8_2
                  try clear hcz8_3
                  try clear hcz8_4
                  try clear hcz8_5
                  try clear hcz8_6
                  try clear hcz8_7
                  try clear hcz8_8
                  try clear hfz13_0
                  try clear hfz13_1
                  try clear hfz13_2
                  try clear hfz13_3
                  try clear hfz13_4
                  try clear hfz13_5
                  try clear hfz13_6
                  try clear hfz13_7
                  try clear hfz13_8
                  try clear hfz14_0
                  try clear hfz14_1
                  try clear hfz14_2
                  try clear hfz14_3
                  try clear hfz8_0
                  try clear hfz8_1
                  try clear hfz8_2
                  try clear hfz8_3
                  try clear hfz8_4
                  try clear hfz8_5
                  try clear hfz8_6
                  try clear hfz8_7
                  try clear hfz8_8
                  try clear p2
                  obtain ⟨x6_3, x115002003_3, rfl, HA, HK3, HO_115002003, BK115001, BK115002, HK, HB⟩ := hrel
                  have hl115002003_3 := (Kd.R_reads' HO_115002003.out).1
                  rw [hl115002003_3] at HO_115002003
                  (try simp only [hl115002003_3])
                  (try simp only [hl115002003_3] at BK115001)
                  cases gk with
                  | zero => exact absurd HA.out (by simp [spec_blendPaste.l2])
                  | succ k3 =>
                    have H := HA.out
                    clear HA
                    simp only [spec_blendPaste.l2] at H
                    by_cases c16 : x6_3 < a0_2
                    · rw [if_pos c16] at H
                      have c16b0 : decide (x6_3 < a0_2) = true := decide_eq_true c16
                      clear c16
                      obtain ⟨ji17, hji17⟩ : ∃ j_ : Int, (wrap64 ((wrap64 ((wrap64 ((wrap64 ((wrap64 ((wrap64 (a1_5 + x4_1)) * a0_0)) + a1_4)) + x5_2)) * a0_2)) + x6_3)) = j_ := ⟨_, rfl⟩
                      replace H : (if 0 ≤ ji17 then (if ji17 < (x115002003_3.length : Int) then (if 0 ≤ (wrap64 ((wrap64 ((wrap64 ((wrap64 (x4_1 * a1_0)) + x5_2)) * a0_2)) + x6_3)) then (if (wrap64 ((wrap64 ((wrap64 ((wrap64 (x4_1 * a1_0)) + x5_2)) * a0_2)) + x6_3)) < (l1_3.length : Int) then ((spec_blend.f a1_6 (rd x115002003_3 ji17) (rd l1_3 (wrap64 ((wrap64 ((wrap64 ((wrap64 (x4_1 * a1_0)) + x5_2)) * a0_2)) + x6_3))) a1_7).bind fun t115006 => (spec_blendPaste.l2 k3 x4_1 x5_2 (wrap64 (x6_3 + 1)) a0_0 a0_1 a0_2 (x115002003_3.set (ji17 : Int).toNat t115006) a1_0 a1_1 a1_2 l1_3 a1_4 a1_5 a1_6 a1_7 a1_8)) else none) else none) else none) else none) = some r := by (rw [hji17] at H; exact H)
                      have hji17w : (IntKind.i64.wrap ((wrap64 ((wrap64 ((wrap64 ((wrap64 ((wrap64 (a1_5 + x4_1)) * a0_0)) + a1_4)) + x5_2)) * a0_2)) + x6_3)) = ji17 := (i64_w _).trans hji17
                      by_cases c18 : 0 ≤ (ji17)
                      · rw [if_pos c18] at H
                        have c18b0 : decide (0 ≤ ji17) = true := decide_eq_true c18
                        clear c18
                        by_cases c19 : ji17 < (x115002003_3.length : Int)
                        · rw [if_pos c19] at H
                          have c19b0 : decide (ji17 < (x115002003_3.length : Int)) = true := decide_eq_true c19
                          clear c19
                          obtain ⟨ji20, hji20⟩ : ∃ j_ : Int, (wrap64 ((wrap64 ((wrap64 ((wrap64 (x4_1 * a1_0)) + x5_2)) * a0_2)) + x6_3)) = j_ := ⟨_, rfl⟩
                          replace H : (if 0 ≤ ji20 then (if ji20 < (l1_3.length : Int) then ((spec_blend.f a1_6 (rd x115002003_3 ji17) (rd l1_3 ji20) a1_7).bind fun t115006 => (spec_blendPaste.l2 k3 x4_1 x5_2 (wrap64 (x6_3 + 1)) a0_0 a0_1 a0_2 (x115002003_3.set (ji17 : Int).toNat t115006) a1_0 a1_1 a1_2 l1_3 a1_4 a1_5 a1_6 a1_7 a1_8)) else none) else none) = some r := by (rw [hji20] at H; exact H)
                          have hji20w : (IntKind.i64.wrap ((wrap64 ((wrap64 ((wrap64 (x4_1 * a1_0)) + x5_2)) * a0_2)) + x6_3)) = ji20 := (i64_w _).trans hji20
                          by_cases c21 : 0 ≤ (ji20)
                          · rw [if_pos c21] at H
                            have c21b0 : decide (0 ≤ ji20) = true := decide_eq_true c21
                            clear c21
                            by_cases c22 : ji20 < (l1_3.length : Int)
                            · rw [if_pos c22] at H
                              have c22b0 : decide (ji20 < (l1_3.length : Int)) = true := decide_eq_true c22
                              clear c22
                              replace H := Option.bind_eq_some_iff.mp H
                              obtain ⟨t115006, A230, H⟩ := H
                              replace H : (spec_blendPaste.l2 k3 x4_1 x5_2 (wrap64 (x6_3 + 1)) a0_0 a0_1 a0_2 (x115002003_3.set (ji17 : Int).toNat t115006) a1_0 a1_1 a1_2 l1_3 a1_4 a1_5 a1_6 a1_7 a1_8) = some r := H
                              have A23 := Aside0.mk A230
                              clear A230
                              obtain ⟨y115007, hy115007⟩ : ∃ y_ : List Int, y_ = (x115002003_3.set (ji17 : Int).toNat t115006) := ⟨_, rfl⟩
                              replace H : (spec_blendPaste.l2 k3 x4_1 x5_2 (wrap64 (x6_3 + 1)) a0_0 a0_1 a0_2 y115007 a1_0 a1_1 a1_2 l1_3 a1_4 a1_5 a1_6 a1_7 a1_8) = some r := by (rw [hy115007]; with_reducible exact H)
                              have Ny115007 := Aside0.mk hy115007
                              clear hy115007
                              have H' := Aside0.mk H
                              clear H
                              have hnb25 := NB115001_115002.out
                              have hnc25 := NB115002_115001.out
                              have hcz26_0 : wr.cell? ⟨gb115001, 0, none⟩ = some (.int .i64 a0_0) := (blk_cell BK115001.out 0).trans rfl
                              have hcz26_1 : wr.cell? ⟨gb115001, 1, none⟩ = some (.int .i64 a0_1) := (blk_cell BK115001.out 1).trans rfl
                              have hcz26_2 : wr.cell? ⟨gb115001, 2, none⟩ = some (.int .i64 a0_2) := (blk_cell BK115001.out 2).trans rfl
                              have hcz26_3 : wr.cell? ⟨gb115001, 3, none⟩ = some (.slice Ao3 x115002003_3.length co3) := (blk_cell BK115001.out 3).trans rfl
                              have hfz26_0 := blk_frozen BK115001.out 0
                              have hfz26_1 := blk_frozen BK115001.out 1
                              have hfz26_2 := blk_frozen BK115001.out 2
                              have hfz26_3 := blk_frozen BK115001.out 3
                              have hcz27_0 : wr.cell? ⟨gb115002, 0, none⟩ = some (.int .i64 a1_0) := (blk_cell BK115002.out 0).trans rfl
                              have hcz27_1 : wr.cell? ⟨gb115002, 1, none⟩ = some (.int .i64 a1_1) := (blk_cell BK115002.out 1).trans rfl
                              have hcz27_2 : wr.cell? ⟨gb115002, 2, none⟩ = some (.int .i64 a1_2) := (blk_cell BK115002.out 2).trans rfl
                              have hcz27_3 : wr.cell? ⟨gb115002, 3, none⟩ = some (.slice A1_3 l1_3.length c1_3) := (blk_cell BK115002.out 3).trans rfl
                              have hcz27_4 : wr.cell? ⟨gb115002, 4, none⟩ = some (.int .i64 a1_4) := (blk_cell BK115002.out 4).trans rfl
                              have hcz27_5 : wr.cell? ⟨gb115002, 5, none⟩ = some (.int .i64 a1_5) := (blk_cell BK115002.out 5).trans rfl
                              have hcz27_6 : wr.cell? ⟨gb115002, 6, none⟩ = some (.int .i64 a1_6) := (blk_cell BK115002.out 6).trans rfl
                              have hcz27_7 : wr.cell? ⟨gb115002, 7, none⟩ = some (.int .i64 a1_7) := (blk_cell BK115002.out 7).trans rfl
                              have hcz27_8 : wr.cell? ⟨gb115002, 8, none⟩ = some (.bool a1_8) := (blk_cell BK115002.out 8).trans rfl
                              have hfz27_0 := blk_frozen BK115002.out 0
                              have hfz27_1 := blk_frozen BK115002.out 1
                              have hfz27_2 := blk_frozen BK115002.out 2
                              have hfz27_3 := blk_frozen BK115002.out 3
                              have hfz27_4 := blk_frozen BK115002.out 4
                              have hfz27_5 := blk_frozen BK115002.out 5
                              have hfz27_6 := blk_frozen BK115002.out 6
                              have hfz27_7 := blk_frozen BK115002.out 7
                              have hfz27_8 := blk_frozen BK115002.out 8
                              try go_wp2
                              have n0_ := Aside0.mk (Kd.R_drew HO_115002003.out)
                              have n1_ := Aside0.mk (blk_drew BK115001.out)
                              have n2_ := Aside0.mk (blk_drew BK115002.out)
                              have n3_ := Aside0.mk (Kept.drew HK.out)
                              have n4_ := Aside0.mk (below_drew1 HB.out)
                              clear HO_115002003 BK115001 BK115002 HK HB
                              revert n0_ n1_ n2_ n3_ n4_; intro HO_115002003 BK115001 BK115002 HK HB
                              have p115004 : 0 ≤ (ji17 : Int) := of_decide_eq_true (by (with_reducible assumption))
                              have q115004 : ji17 < (x115002003_3.length : Int) := of_decide_eq_true (by (with_reducible assumption))
                              obtain ⟨ad115004, e115004, hx115004_0⟩ := Kd.at_int (Kd.R_reads' HO_115002003.out).2.2 ji17 p115004 q115004
                              cases e115004
                              replace p115004 := eq_true p115004
                              replace q115004 := eq_true q115004
                              have p115005 : 0 ≤ (ji20 : Int) := of_decide_eq_true (by (with_reducible assumption))
                              have q115005 : ji20 < (l1_3.length : Int) := of_decide_eq_true (by (with_reducible assumption))
                              obtain ⟨ad115005, e115005, hx115005_0⟩ := Kd.at_int (Kd.C_kept_now HR1_3.out HK.out) ji20 p115005 q115005
                              have hw115005_0 := hx115005_0
                              cases e115005
                              replace p115005 := eq_true p115005
                              replace q115005 := eq_true q115005
                              refine start_ (n := 32) (S := fun w' => w'.cell? ⟨gb115001, 0, none⟩ = some (.int .i64 a0_0) ∧ w'.cell? ⟨gb115001, 1, none⟩ = some (.int .i64 a0_1) ∧ w'.cell? ⟨gb115001, 2, none⟩ = some (.int .i64 a0_2) ∧ w'.cell? ⟨gb115001, 3, none⟩ = some (.slice (some ad115004) x115002003_3.length co3) ∧ w'.cell? ⟨gb115002, 0, none⟩ = some (.int .i64 a1_0) ∧ w'.cell? ⟨gb115002, 1, none⟩ = some (.int .i64 a1_1) ∧ w'.cell? ⟨gb115002, 2, none⟩ = some (.int .i64 a1_2) ∧ w'.cell? ⟨gb115002, 3, none⟩ = some (.slice (some ad115005) l1_3.length c1_3) ∧ w'.cell? ⟨gb115002, 4, none⟩ = some (.int .i64 a1_4) ∧ w'.cell? ⟨gb115002, 5, none⟩ = some (.int .i64 a1_5) ∧ w'.cell? ⟨gb115002, 6, none⟩ = some (.int .i64 a1_6) ∧ w'.cell? ⟨gb115002, 7, none⟩ = some (.int .i64 a1_7) ∧ w'.cell? ⟨gb115002, 8, none⟩ = some (.bool a1_8) ∧ w'.cell? (ad115004.add (ji17).toNat) = some (.int .i64 (rd x115002003_3 ji17)) ∧ w'.cell? (ad115005.add (ji20).toNat) = some (.int .i64 (rd l1_3 ji20))) (ds := [31]) #[false, false, false, false, false, false, false, false, false, false, false, false, false, false, false, false, false, false, false, false, false, false, false, false, false, false, false, false, false, false, false, false] (by kernel_rfl) rfl rfl ⟨(blk_cell BK115001.out 0).trans rfl, (blk_cell BK115001.out 1).trans rfl, (blk_cell BK115001.out 2).trans rfl, (blk_cell BK115001.out 3).trans rfl, (blk_cell BK115002.out 0).trans rfl, (blk_cell BK115002.out 1).trans rfl, (blk_cell BK115002.out 2).trans rfl, (blk_cell BK115002.out 3).trans rfl, (blk_cell BK115002.out 4).trans rfl, (blk_cell BK115002.out 5).trans rfl, (blk_cell BK115002.out 6).trans rfl, (blk_cell BK115002.out 7).trans rfl, (blk_cell BK115002.out 8).trans rfl, hx115004_0, (Kd.foot_int (HR1_3.out _ HK.out) ji20 (of_eq_true p115005) (of_eq_true q115005))⟩ (fun hHeld => ?_); refine with_tabW spec_blendPaste.tab12 spec_blendPaste.bits12 (fun HT_ HW_ => ?_)
                              generalize wr.drew = w28 at HO_115002003 BK115001 BK115002 HK HB hx115004_0 hx115005_0 hHeld ⊢
                              refine pure_ (i := 0) (N := some 56) (v := ?_) (a' := ?_) #[true, false, false, false, false, false, false, false, false, false, false, false, false, false, false, false, false, false, false, false, false, false, false, false, false, false, false, false, false, false, false, false] rfl rfl (any_of HT_.out (by kernel_rfl)) (fun _ _ _ h => h) (Or.inl ⟨by rfl, ?_⟩) ?_ ?_
                              rotate_left
                              · intro w'
                                go_simp
                                with_reducible rfl
                              rotate_left
                              · simp only [Act.put, List.setIfInBounds_toArray, List.set_cons_zero, List.set_cons_succ, i64_w, i32_w]
                                rfl
                              refine pure_ (i := 2) (N := some 58) (v := ?_) (a' := ?_) #[true, false, true, false, false, false, false, false, false, false, false, false, false, false, false, false, false, false, false, false, false, false, false, false, false, false, false, false, false, false, false, false] rfl rfl (any_of HT_.out (by kernel_rfl)) (fun _ _ _ h => h) (Or.inl ⟨by rfl, ?_⟩) ?_ ?_
                              rotate_left
                              · intro w'
                                go_simp
                                with_reducible rfl
                              rotate_left
                              · simp only [Act.put, List.setIfInBounds_toArray, List.set_cons_zero, List.set_cons_succ, i64_w, i32_w]
                                rfl
                              refine pure_ (i := 3) (N := some 59) (v := ?_) (a' := ?_) #[true, false, true, true, false, false, false, false, false, false, false, false, false, false, false, false, false, false, false, false, false, false, false, false, false, false, false, false, false, false, false, false] rfl rfl (any_of HT_.out (by kernel_rfl)) (fun _ _ _ h => h) (Or.inl ⟨by rfl, ?_⟩) ?_ ?_
                              rotate_left
                              · intro w'
                                go_simp
                                with_reducible rfl
                              rotate_left
                              · simp only [Act.put, List.setIfInBounds_toArray, List.set_cons_zero, List.set_cons_succ, i64_w, i32_w]
                                rfl
                              refine pure_ (i := 5) (N := some 61) (v := ?_) (a' := ?_) #[true, false, true, true, false, true, false, false, false, false, false, false, false, false, false, false, false, false, false, false, false, false, false, false, false, false, false, false, false, false, false, false] rfl rfl (any_of HT_.out (by kernel_rfl)) (fun _ _ _ h => h) (Or.inl ⟨by rfl, ?_⟩) ?_ ?_
                              rotate_left
                              · intro w'
                                go_simp
                                with_reducible rfl
                              rotate_left
                              · simp only [Act.put, List.setIfInBounds_toArray, List.set_cons_zero, List.set_cons_succ, i64_w, i32_w]
                                rfl
                              refine pure_ (i := 7) (N := some 63) (v := ?_) (a' := ?_) #[true, false, true, true, false, true, false, true, false, false, false, false, false, false, false, false, false, false, false, false, false, false, false, false, false, false, false, false, false, false, false, false] rfl rfl (any_of HT_.out (by kernel_rfl)) (fun _ _ _ h => h) (Or.inl ⟨by rfl, ?_⟩) ?_ ?_
                              rotate_left
                              · intro w'
                                go_simp
                                with_reducible rfl
                              rotate_left
                              · simp only [Act.put, List.setIfInBounds_toArray, List.set_cons_zero, List.set_cons_succ, i64_w, i32_w]
                                rfl
                              refine pure_ (i := 10) (N := some 66) (v := ?_) (a' := ?_) #[true, false, true, true, false, true, false, true, false, false, true, false, false, false, false, false, false, false, false, false, false, false, false, false, false, false, false, false, false, false, false, false] rfl rfl (any_of HT_.out (by kernel_rfl)) (fun _ _ _ h => h) (Or.inl ⟨by rfl, ?_⟩) ?_ ?_
                              rotate_left
                              · intro w'
                                go_simp
                                with_reducible rfl
                              rotate_left
                              · simp only [Act.put, List.setIfInBounds_toArray, List.set_cons_zero, List.set_cons_succ, i64_w, i32_w]
                                rfl
                              refine pure_ (i := 11) (N := some 67) (v := ?_) (a' := ?_) #[true, false, true, true, false, true, false, true, false, false, true, true, false, false, false, false, false, false, false, false, false, false, false, false, false, false, false, false, false, false, false, false] rfl rfl (any_of HT_.out (by kernel_rfl)) (fun _ _ _ h => h) (Or.inl ⟨by rfl, ?_⟩) ?_ ?_
                              rotate_left
                              · intro w'
                                go_simp
                                with_reducible rfl
                              rotate_left
                              · simp only [Act.put, List.setIfInBounds_toArray, List.set_cons_zero, List.set_cons_succ, i64_w, i32_w]
                                rfl
                              refine pure_ (i := 13) (N := some 69) (v := ?_) (a' := ?_) #[true, false, true, true, false, true, false, true, false, false, true, true, false, true, false, false, false, false, false, false, false, false, false, false, false, false, false, false, false, false, false, false] rfl rfl (any_of HT_.out (by kernel_rfl)) (fun _ _ _ h => h) (Or.inl ⟨by rfl, ?_⟩) ?_ ?_
                              rotate_left
                              · intro w'
                                go_simp
                                with_reducible rfl
                              rotate_left
                              · simp only [Act.put, List.setIfInBounds_toArray, List.set_cons_zero, List.set_cons_succ, i64_w, i32_w]
                                rfl
                              refine pure_ (i := 14) (N := some 70) (v := ?_) (a' := ?_) #[true, false, true, true, false, true, false, true, false, false, true, true, false, true, true, false, false, false, false, false, false, false, false, false, false, false, false, false, false, false, false, false] rfl rfl (any_of HT_.out (by kernel_rfl)) (fun _ _ _ h => h) (Or.inl ⟨by rfl, ?_⟩) ?_ ?_
                              rotate_left
                              · intro w'
                                go_simp
                                with_reducible rfl
                              rotate_left
                              · simp only [Act.put, List.setIfInBounds_toArray, List.set_cons_zero, List.set_cons_succ, i64_w, i32_w]
                                rfl
                              refine pure_ (i := 15) (N := some 71) (v := ?_) (a' := ?_) #[true, false, true, true, false, true, false, true, false, false, true, true, false, true, true, true, false, false, false, false, false, false, false, false, false, false, false, false, false, false, false, false] rfl rfl (any_of HT_.out (by kernel_rfl)) (fun _ _ _ h => h) (Or.inl ⟨by rfl, ?_⟩) ?_ ?_
                              rotate_left
                              · intro w'
                                go_simp
                                with_reducible rfl
                              rotate_left
                              · simp only [Act.put, List.setIfInBounds_toArray, List.set_cons_zero, List.set_cons_succ, i64_w, i32_w]
                                rfl
                              refine pure_ (i := 18) (N := some 74) (v := ?_) (a' := ?_) #[true, false, true, true, false, true, false, true, false, false, true, true, false, true, true, true, false, false, true, false, false, false, false, false, false, false, false, false, false, false, false, false] rfl rfl (any_of HT_.out (by kernel_rfl)) (fun _ _ _ h => h) (Or.inl ⟨by rfl, ?_⟩) ?_ ?_
                              rotate_left
                              · intro w'
                                go_simp
                                with_reducible rfl
                              rotate_left
                              · simp only [Act.put, List.setIfInBounds_toArray, List.set_cons_zero, List.set_cons_succ, i64_w, i32_w]
                                rfl
                              refine pure_ (i := 20) (N := some 76) (v := ?_) (a' := ?_) #[true, false, true, true, false, true, false, true, false, false, true, true, false, true, true, true, false, false, true, false, true, false, false, false, false, false, false, false, false, false, false, false] rfl rfl (any_of HT_.out (by kernel_rfl)) (fun _ _ _ h => h) (Or.inl ⟨by rfl, ?_⟩) ?_ ?_
                              rotate_left
                              · intro w'
                                go_simp
                                with_reducible rfl
                              rotate_left
                              · simp only [Act.put, List.setIfInBounds_toArray, List.set_cons_zero, List.set_cons_succ, i64_w, i32_w]
                                rfl
                              refine pure_ (i := 23) (N := some 79) (v := ?_) (a' := ?_) #[true, false, true, true, false, true, false, true, false, false, true, true, false, true, true, true, false, false, true, false, true, false, false, true, false, false, false, false, false, false, false, false] rfl rfl (any_of HT_.out (by kernel_rfl)) (fun _ _ _ h => h) (Or.inl ⟨by rfl, ?_⟩) ?_ ?_
                              rotate_left
                              · intro w'
                                go_simp
                                with_reducible rfl
                              rotate_left
                              · simp only [Act.put, List.setIfInBounds_toArray, List.set_cons_zero, List.set_cons_succ, i64_w, i32_w]
                                rfl
                              refine pure_ (i := 27) (N := some 83) (v := ?_) (a' := ?_) #[true, false, true, true, false, true, false, true, false, false, true, true, false, true, true, true, false, false, true, false, true, false, false, true, false, false, false, true, false, false, false, false] rfl rfl (any_of HT_.out (by kernel_rfl)) (fun _ _ _ h => h) (Or.inl ⟨by rfl, ?_⟩) ?_ ?_
                              rotate_left
                              · intro w'
                                go_simp
                                with_reducible rfl
                              rotate_left
                              · simp only [Act.put, List.setIfInBounds_toArray, List.set_cons_zero, List.set_cons_succ, i64_w, i32_w]
                                rfl
                              refine take_ (i := 1) (N := some 57) (v := ?_) (a' := ?_) #[true, true, true, true, false, true, false, true, false, false, true, true, false, true, true, true, false, false, true, false, true, false, false, true, false, false, false, true, false, false, false, false] rfl rfl (take_ofW HT_.out HW_.out (by kernel_rfl)) (fun _ _ _ h => h) (Or.inl ⟨by rfl, ?_⟩) hHeld ?_ ?_
                              rotate_left
                              · rintro w' ⟨s0, s1, s2, s3, s4, s5, s6, s7, s8, s9, s10, s11, s12, s13, s14⟩
                                go_simp
                                with_reducible rfl
                              rotate_left
                              · simp only [Act.put, List.setIfInBounds_toArray, List.set_cons_zero, List.set_cons_succ, i64_w, i32_w]
                                rfl
                              refine take_ (i := 4) (N := some 60) (v := ?_) (a' := ?_) #[true, true, true, true, true, true, false, true, false, false, true, true, false, true, true, true, false, false, true, false, true, false, false, true, false, false, false, true, false, false, false, false] rfl rfl (take_ofW HT_.out HW_.out (by kernel_rfl)) (fun _ _ _ h => h) (Or.inl ⟨by rfl, ?_⟩) hHeld ?_ ?_
                              rotate_left
                              · rintro w' ⟨s0, s1, s2, s3, s4, s5, s6, s7, s8, s9, s10, s11, s12, s13, s14⟩
                                go_simp
                                with_reducible rfl
                              rotate_left
                              · simp only [Act.put, List.setIfInBounds_toArray, List.set_cons_zero, List.set_cons_succ, i64_w, i32_w]
                                rfl
                              refine take_ (i := 6) (N := some 62) (v := ?_) (a' := ?_) #[true, true, true, true, true, true, true, true, false, false, true, true, false, true, true, true, false, false, true, false, true, false, false, true, false, false, false, true, false, false, false, false] rfl rfl (take_ofW HT_.out HW_.out (by kernel_rfl)) (fun _ _ _ h => h) (Or.inl ⟨by rfl, ?_⟩) hHeld ?_ ?_
                              rotate_left
                              · rintro w' ⟨s0, s1, s2, s3, s4, s5, s6, s7, s8, s9, s10, s11, s12, s13, s14⟩
                                go_simp
                                with_reducible rfl
                              rotate_left
                              · simp only [Act.put, List.setIfInBounds_toArray, List.set_cons_zero, List.set_cons_succ, i64_w, i32_w]
                                rfl
                              refine pure_ (i := 8) (N := some 64) (v := ?_) (a' := ?_) #[true, true, true, true, true, true, true, true, true, false, true, true, false, true, true, true, false, false, true, false, true, false, false, true, false, false, false, true, false, false, false, false] rfl rfl (any_of HT_.out (by kernel_rfl)) (fun _ _ _ h => h) (Or.inl ⟨by rfl, ?_⟩) ?_ ?_
                              rotate_left
                              · intro w'
                                go_simp
                                with_reducible rfl
                              rotate_left
                              · simp only [Act.put, List.setIfInBounds_toArray, List.set_cons_zero, List.set_cons_succ, i64_w, i32_w]
                                rfl
                              refine take_ (i := 9) (N := some 65) (v := ?_) (a' := ?_) #[true, true, true, true, true, true, true, true, true, true, true, true, false, true, true, true, false, false, true, false, true, false, false, true, false, false, false, true, false, false, false, false] rfl rfl (take_ofW HT_.out HW_.out (by kernel_rfl)) (fun _ _ _ h => h) (Or.inl ⟨by rfl, ?_⟩) hHeld ?_ ?_
                              rotate_left
                              · rintro w' ⟨s0, s1, s2, s3, s4, s5, s6, s7, s8, s9, s10, s11, s12, s13, s14⟩
                                go_simp
                                with_reducible rfl
                              rotate_left
                              · simp only [Act.put, List.setIfInBounds_toArray, List.set_cons_zero, List.set_cons_succ, i64_w, i32_w]
                                rfl
                              refine take_ (i := 12) (N := some 68) (v := ?_) (a' := ?_) #[true, true, true, true, true, true, true, true, true, true, true, true, true, true, true, true, false, false, true, false, true, false, false, true, false, false, false, true, false, false, false, false] rfl rfl (take_ofW HT_.out HW_.out (by kernel_rfl)) (fun _ _ _ h => h) (Or.inl ⟨by rfl, ?_⟩) hHeld ?_ ?_
                              rotate_left
                              · rintro w' ⟨s0, s1, s2, s3, s4, s5, s6, s7, s8, s9, s10, s11, s12, s13, s14⟩
                                go_simp
                                with_reducible rfl
                              rotate_left
                              · simp only [Act.put, List.setIfInBounds_toArray, List.set_cons_zero, List.set_cons_succ, i64_w, i32_w]
                                rfl
                              refine take_ (i := 16) (N := some 72) (v := ?_) (a' := ?_) #[true, true, true, true, true, true, true, true, true, true, true, true, true, true, true, true, true, false, true, false, true, false, false, true, false, false, false, true, false, false, false, false] rfl rfl (take_ofW HT_.out HW_.out (by kernel_rfl)) (fun _ _ _ h => h) (Or.inl ⟨by rfl, ?_⟩) hHeld ?_ ?_
                              rotate_left
                              · rintro w' ⟨s0, s1, s2, s3, s4, s5, s6, s7, s8, s9, s10, s11, s12, s13, s14⟩
                                go_simp
                                with_reducible rfl
                              rotate_left
                              · simp only [Act.put, List.setIfInBounds_toArray, List.set_cons_zero, List.set_cons_succ, i64_w, i32_w]
                                rfl
                              refine pure_ (i := 17) (N := some 73) (v := ?_) (a' := ?_) #[true, true, true, true, true, true, true, true, true, true, true, true, true, true, true, true, true, true, true, false, true, false, false, true, false, false, false, true, false, false, false, false] rfl rfl (any_of HT_.out (by kernel_rfl)) (fun _ _ _ h => h) (Or.inl ⟨by rfl, ?_⟩) ?_ ?_
                              rotate_left
                              · intro w'
                                go_simp
                                with_reducible rfl
                              rotate_left
                              · simp only [Act.put, List.setIfInBounds_toArray, List.set_cons_zero, List.set_cons_succ, i64_w, i32_w]
                                rfl
                              refine pure_ (i := 19) (N := some 75) (v := ?_) (a' := ?_) #[true, true, true, true, true, true, true, true, true, true, true, true, true, true, true, true, true, true, true, true, true, false, false, true, false, false, false, true, false, false, false, false] rfl rfl (any_of HT_.out (by kernel_rfl)) (fun _ _ _ h => h) (Or.inl ⟨by rfl, ?_⟩) ?_ ?_
                              rotate_left
                              · intro w'
                                go_simp
                                with_reducible rfl
                              rotate_left
                              · simp only [Act.put, List.setIfInBounds_toArray, List.set_cons_zero, List.set_cons_succ, i64_w, i32_w]
                                rfl
                              refine take_ (i := 21) (N := some 77) (v := ?_) (a' := ?_) #[true, true, true, true, true, true, true, true, true, true, true, true, true, true, true, true, true, true, true, true, true, true, false, true, false, false, false, true, false, false, false, false] rfl rfl (take_ofW HT_.out HW_.out (by kernel_rfl)) (fun _ _ _ h => h) (Or.inl ⟨by rfl, ?_⟩) hHeld ?_ ?_
                              rotate_left
                              · rintro w' ⟨s0, s1, s2, s3, s4, s5, s6, s7, s8, s9, s10, s11, s12, s13, s14⟩
                                go_simp
                                with_reducible rfl
                              rotate_left
                              · simp only [Act.put, List.setIfInBounds_toArray, List.set_cons_zero, List.set_cons_succ, i64_w, i32_w]
                                rfl
                              refine pure_ (i := 22) (N := some 78) (v := ?_) (a' := ?_) #[true, true, true, true, true, true, true, true, true, true, true, true, true, true, true, true, true, true, true, true, true, true, true, true, false, false, false, true, false, false, false, false] rfl rfl (any_of HT_.out (by kernel_rfl)) (fun _ _ _ h => h) (Or.inl ⟨by rfl, ?_⟩) ?_ ?_
                              rotate_left
                              · intro w'
                                go_simp
                                with_reducible rfl
                              rotate_left
                              · simp only [Act.put, List.setIfInBounds_toArray, List.set_cons_zero, List.set_cons_succ, i64_w, i32_w]
                                rfl
                              refine pure_ (i := 24) (N := some 80) (v := ?_) (a' := ?_) #[true, true, true, true, true, true, true, true, true, true, true, true, true, true, true, true, true, true, true, true, true, true, true, true, true, false, false, true, false, false, false, false] rfl rfl (any_of HT_.out (by kernel_rfl)) (fun _ _ _ h => h) (Or.inl ⟨by rfl, ?_⟩) ?_ ?_
                              rotate_left
                              · intro w'
                                go_simp
                                with_reducible rfl
                              rotate_left
                              · simp only [Act.put, List.setIfInBounds_toArray, List.set_cons_zero, List.set_cons_succ, i64_w, i32_w]
                                rfl
                              refine pure_ (i := 25) (N := some 81) (v := ?_) (a' := ?_) #[true, true, true, true, true, true, true, true, true, true, true, true, true, true, true, true, true, true, true, true, true, true, true, true, true, true, false, true, false, false, false, false] rfl rfl (any_of HT_.out (by kernel_rfl)) (fun _ _ _ h => h) (Or.inl ⟨by rfl, ?_⟩) ?_ ?_
                              rotate_left
                              · intro w'
                                go_simp
                                with_reducible rfl
                              rotate_left
                              · simp only [Act.put, List.setIfInBounds_toArray, List.set_cons_zero, List.set_cons_succ, i64_w, i32_w]
                                rfl
                              refine take_ (i := 26) (N := some 82) (v := ?_) (a' := ?_) #[true, true, true, true, true, true, true, true, true, true, true, true, true, true, true, true, true, true, true, true, true, true, true, true, true, true, true, true, false, false, false, false] rfl rfl (take_ofW HT_.out HW_.out (by kernel_rfl)) (fun _ _ _ h => h) (Or.inl ⟨by rfl, ?_⟩) hHeld ?_ ?_
                              rotate_left
                              · rintro w' ⟨s0, s1, s2, s3, s4, s5, s6, s7, s8, s9, s10, s11, s12, s13, s14⟩
                                go_simp
                                with_reducible rfl
                              rotate_left
                              · simp only [Act.put, List.setIfInBounds_toArray, List.set_cons_zero, List.set_cons_succ, i64_w, i32_w]
                                rfl
                              refine take_ (i := 28) (N := some 84) (v := ?_) (a' := ?_) #[true, true, true, true, true, true, true, true, true, true, true, true, true, true, true, true, true, true, true, true, true, true, true, true, true, true, true, true, true, false, false, false] rfl rfl (take_ofW HT_.out HW_.out (by kernel_rfl)) (fun _ _ _ h => h) (Or.inl ⟨by rfl, ?_⟩) hHeld ?_ ?_
                              rotate_left
                              · rintro w' ⟨s0, s1, s2, s3, s4, s5, s6, s7, s8, s9, s10, s11, s12, s13, s14⟩
                                go_simp
                                with_reducible rfl
                              rotate_left
                              · simp only [Act.put, List.setIfInBounds_toArray, List.set_cons_zero, List.set_cons_succ, i64_w, i32_w]
                                rfl
                              refine one_ (i := 29) (N := some 85) #[true, true, true, true, true, true, true, true, true, true, true, true, true, true, true, true, true, true, true, true, true, true, true, true, true, true, true, true, true, true, false, false] rfl rfl (one_of HT_.out (by kernel_rfl)) (by decide) (fun K hK => ?_)
                              refine goes_ Try.func145 (by kernel_rfl) rfl #[.int .i64 a1_6, .int .i64 (rd x115002003_3 ji17), .int .i64 (rd l1_3 ji20), .int .i64 a1_7] (by rfl) rfl rfl (by (try simp only [List.map_toArray, List.map_cons, List.map_nil]); rfl) ?_
                              with_reducible refine (spec_blend.calls a1_6 (rd x115002003_3 ji17) (rd l1_3 ji20) a1_7 t115006 _ A23.out).mono ?_
                              rintro e w29 ⟨rfl, hb⟩
                              have HS13_ := (hb.cell (World.block_lt_of_cell? _ _ hHeld.2.2.2.2.2.2.2.2.2.2.2.2.2.1)).trans (hHeld.2.2.2.2.2.2.2.2.2.2.2.2.2.1)
                              refine ⟨_, rfl, ?_⟩
                              have n0_ := Aside0.mk (Kd.R_below HO_115002003.out hb)
                              have n1_ := Aside0.mk (blk_below BK115001.out hb)
                              have n2_ := Aside0.mk (blk_below BK115002.out hb)
                              have n3_ := Aside0.mk (Kept.below (S := (fun k_ => P0_3_ k_)) HK.out hb)
                              have n4_ := Aside0.mk (below_step HB.out hb)
                              clear HO_115002003 BK115001 BK115002 HK HB
                              revert n0_ n1_ n2_ n3_ n4_; intro HO_115002003 BK115001 BK115002 HK HB
                              (try clear hb)
                              have p24 : 0 ≤ (ji17 : Int) := of_decide_eq_true (by (with_reducible assumption))
                              have q24 : (ji17 : Int) < ((x115002003_3.length : Int) : Int) := of_decide_eq_true (by (with_reducible assumption))
                              obtain ⟨go24, co24, eo24, gb24, gl24, cl24, HG24⟩ := Kd.R_form HO_115002003.out (by omega)
                              (cases eo24)
                              have GB24 := Aside0.mk gb24
                              have GG24 := Aside0.mk HG24
                              clear gb24 gl24 HG24
                              have HMgo24 := Aside0.mk (show (P0_3_ go24 ∨ w.heap.size ≤ go24) from (HO_115002003.out.1 _ rfl))
                              (simp only [add_plain] at hx115004_0)
                              obtain ⟨hx24_0, hf24_0⟩ := Kd.R_celln 0 HO_115002003.out (ji17 : Int) p24 q24
                              replace p24 := eq_true p24
                              replace q24 := eq_true q24
                              have HP30 := Kd.R_putn HO_115002003.out (ji17 : Int) t115006
                              rw [← Ny115007.out] at HP30
                              have HQ30 := Aside0.mk HP30
                              clear HP30
                              refine hK.out _ _ ⟨(blk_cell BK115001.out 0).trans rfl, (blk_cell BK115001.out 1).trans rfl, (blk_cell BK115001.out 2).trans rfl, (blk_cell BK115001.out 3).trans rfl, (blk_cell BK115002.out 0).trans rfl, (blk_cell BK115002.out 1).trans rfl, (blk_cell BK115002.out 2).trans rfl, (blk_cell BK115002.out 3).trans rfl, (blk_cell BK115002.out 4).trans rfl, (blk_cell BK115002.out 5).trans rfl, (blk_cell BK115002.out 6).trans rfl, (blk_cell BK115002.out 7).trans rfl, (blk_cell BK115002.out 8).trans rfl, HS13_, (Kd.foot_int (HR1_3.out _ HK.out) ji20 (of_eq_true p115005) (of_eq_true q115005))⟩ (fun hHeld => ?_)
                              clear hK K
                              refine norm_ (a' := ?_) ?_ ?_
                              rotate_left
                              · show Act.put _ (some 85) _ = _
                                simp only [Act.put, List.setIfInBounds_toArray, List.set_cons_zero, List.set_cons_succ, i64_w, i32_w]
                                rfl
                              refine pure_ (i := 30) (N := some 86) (v := ?_) (a' := ?_) #[true, true, true, true, true, true, true, true, true, true, true, true, true, true, true, true, true, true, true, true, true, true, true, true, true, true, true, true, true, true, true, false] rfl rfl (any_of HT_.out (by kernel_rfl)) (fun _ _ _ h => h) (Or.inl ⟨by rfl, ?_⟩) ?_ ?_
                              rotate_left
                              · intro w'
                                go_simp
                                with_reducible rfl
                              rotate_left
                              · simp only [Act.put, List.setIfInBounds_toArray, List.set_cons_zero, List.set_cons_succ, i64_w, i32_w]
                                rfl
                              refine last_ (i := 31) (N := none) #[true, true, true, true, true, true, true, true, true, true, true, true, true, true, true, true, true, true, true, true, true, true, true, true, true, true, true, true, true, true, true, true] rfl rfl (one_of HT_.out (by kernel_rfl)) (by decide) (fun K hK => ?_)
                              refine skip_ (w1 := ?_) (by rfl) rfl ?_ ?_
                              rotate_left
                              · go_simp
                                rfl
                              refine hK.out _ _ ?_
                              clear hK K
                              refine done_ (done_of HT_.out (by kernel_rfl)) ?_
                              try go_wp2
                              (try simp only [← hl115002003_3])
                              go_roundg k3
                              case measure => have := HK1.out; have := HK2.out; have := HK3.out; omega
                              case rel => exact ⟨(wrap64 (x6_3 + 1)), (y115007), (by rfl), H', ⟨by have := HK1.out; have := HK2.out; have := HK3.out; omega⟩, ⟨by (try simp only [hl115002003_3]); (with_reducible repeat (first | apply Kd.R_alloc | apply Kd.R_drewN | apply Kd.R_drew)); exact HQ30.out⟩, ⟨by (try simp only [hl115002003_3]); (with_reducible repeat (first | refine blk_drewN ?_ _ | refine blk_drew ?_ | refine blk_alloc ?_ _)); refine blk_far ?_ (by have h_ := Kd.R_ne HO_115002003.out BK115001.out (by decide); intro e_; exact h_ (by rw [e_]; rfl)) _; (with_reducible repeat (first | refine blk_drewN ?_ _ | refine blk_drew ?_ | refine blk_alloc ?_ _)); exact BK115001.out⟩, ⟨by (with_reducible repeat (first | refine blk_drewN ?_ _ | refine blk_drew ?_ | refine blk_alloc ?_ _)); refine blk_far ?_ (by have h_ := Kd.R_ne HO_115002003.out BK115002.out (by decide); intro e_; exact h_ (by rw [e_]; rfl)) _; (with_reducible repeat (first | refine blk_drewN ?_ _ | refine blk_drew ?_ | refine blk_alloc ?_ _)); exact BK115002.out⟩, ⟨by repeat (with_reducible first | exact HK.out | refine Kept.setCell ?_ HMgo24.out _)⟩, ⟨by repeat (with_reducible first | exact HB.out | refine below_set ?_ GB24.out)⟩⟩
                            · rw [if_neg c22] at H
                              exact absurd H (by simp)
                          · rw [if_neg c21] at H
                            exact absurd H (by simp)
                        · rw [if_neg c19] at H
                          exact absurd H (by simp)
                      · rw [if_neg c18] at H
                        exact absurd H (by simp)
                    · rw [if_neg c16] at H
                      have c16b0 : decide (x6_3 < a0_2) = false := decide_eq_false c16
                      clear c16
                      have H' := Aside0.mk H
                      clear H
                      have hnb31 := NB115001_115002.out
                      have hnc31 := NB115002_115001.out
                      have hcz32_0 : wr.cell? ⟨gb115001, 0, none⟩ = some (.int .i64 a0_0) := (blk_cell BK115001.out 0).trans rfl
                      have hcz32_1 : wr.cell? ⟨gb115001, 1, none⟩ = some (.int .i64 a0_1) := (blk_cell BK115001.out 1).trans rfl
                      have hcz32_2 : wr.cell? ⟨gb115001, 2, none⟩ = some (.int .i64 a0_2) := (blk_cell BK115001.out 2).trans rfl
                      have hcz32_3 : wr.cell? ⟨gb115001, 3, none⟩ = some (.slice Ao3 x115002003_3.length co3) := (blk_cell BK115001.out 3).trans rfl
                      have hfz32_0 := blk_frozen BK115001.out 0
                      have hfz32_1 := blk_frozen BK115001.out 1
                      have hfz32_2 := blk_frozen BK115001.out 2
                      have hfz32_3 := blk_frozen BK115001.out 3
                      go_wp2
                      (try simp only [← hl115002003_2, ← hl115002003_3])
                      go_roundg k3
                      case measure => have := HK1.out; have := HK2.out; have := HK3.out; omega
                      case rel => exact ⟨(wrap64 (x5_2 + 1)), (x115002003_3), (by rfl), H', ⟨by have := HK1.out; have := HK2.out; have := HK3.out; omega⟩, ⟨by (try simp only [hl115002003_2]); (try simp only [hl115002003_3]); (with_reducible repeat (first | apply Kd.R_alloc | apply Kd.R_drewN | apply Kd.R_drew)); exact HO_115002003.out⟩, ⟨by (try simp only [hl115002003_2]); (try simp only [hl115002003_3]); (with_reducible repeat (first | refine blk_drewN ?_ _ | refine blk_drew ?_ | refine blk_alloc ?_ _)); exact BK115001.out⟩, ⟨by (with_reducible repeat (first | refine blk_drewN ?_ _ | refine blk_drew ?_ | refine blk_alloc ?_ _)); exact BK115002.out⟩, ⟨by exact HK.out⟩, ⟨by exact HB.out⟩⟩
              · replace c11 := Bool.eq_false_iff.mpr c11
                subst c11
                have H1 : (spec_blendPaste.l1 k2 x4_1 (wrap64 (x5_2 + 1)) a0_0 a0_1 a0_2 x115002003_2 a1_0 a1_1 a1_2 l1_3 a1_4 a1_5 a1_6 a1_7 a1_8) = some r := by rw [if_neg (show ¬ (false = true) by decide)] at H; exact H
                clear H
                have H := H1
                clear H1
                have H' := Aside0.mk H
                clear H
                have hnb33 := NB115002_115001.out
                have hnc33 := NB115001_115002.out
                have hcz34_0 : wr.cell? ⟨gb115002, 0, none⟩ = some (.int .i64 a1_0) := (blk_cell BK115002.out 0).trans rfl
                have hcz34_1 : wr.cell? ⟨gb115002, 1, none⟩ = some (.int .i64 a1_1) := (blk_cell BK115002.out 1).trans rfl
                have hcz34_2 : wr.cell? ⟨gb115002, 2, none⟩ = some (.int .i64 a1_2) := (blk_cell BK115002.out 2).trans rfl
                have hcz34_3 : wr.cell? ⟨gb115002, 3, none⟩ = some (.slice A1_3 l1_3.length c1_3) := (blk_cell BK115002.out 3).trans rfl
                have hcz34_4 : wr.cell? ⟨gb115002, 4, none⟩ = some (.int .i64 a1_4) := (blk_cell BK115002.out 4).trans rfl
                have hcz34_5 : wr.cell? ⟨gb115002, 5, none⟩ = some (.int .i64 a1_5) := (blk_cell BK115002.out 5).trans rfl
                have hcz34_6 : wr.cell? ⟨gb115002, 6, none⟩ = some (.int .i64 a1_6) := (blk_cell BK115002.out 6).trans rfl
                have hcz34_7 : wr.cell? ⟨gb115002, 7, none⟩ = some (.int .i64 a1_7) := (blk_cell BK115002.out 7).trans rfl
                have hcz34_8 : wr.cell? ⟨gb115002, 8, none⟩ = some (.bool a1_8) := (blk_cell BK115002.out 8).trans rfl
                have hfz34_0 := blk_frozen BK115002.out 0
                have hfz34_1 := blk_frozen BK115002.out 1
                have hfz34_2 := blk_frozen BK115002.out 2
                have hfz34_3 := blk_frozen BK115002.out 3
                have hfz34_4 := blk_frozen BK115002.out 4
                have hfz34_5 := blk_frozen BK115002.out 5
                have hfz34_6 := blk_frozen BK115002.out 6
                have hfz34_7 := blk_frozen BK115002.out 7
                have hfz34_8 := blk_frozen BK115002.out 8
                have hcz35_0 : wr.cell? ⟨gb115001, 0, none⟩ = some (.int .i64 a0_0) := (blk_cell BK115001.out 0).trans rfl
                have hcz35_1 : wr.cell? ⟨gb115001, 1, none⟩ = some (.int .i64 a0_1) := (blk_cell BK115001.out 1).trans rfl
                have hcz35_2 : wr.cell? ⟨gb115001, 2, none⟩ = some (.int .i64 a0_2) := (blk_cell BK115001.out 2).trans rfl
                have hcz35_3 : wr.cell? ⟨gb115001, 3, none⟩ = some (.slice Ao3 x115002003_2.length co3) := (blk_cell BK115001.out 3).trans rfl
                have hfz35_0 := blk_frozen BK115001.out 0
                have hfz35_1 := blk_frozen BK115001.out 1
                have hfz35_2 := blk_frozen BK115001.out 2
                have hfz35_3 := blk_frozen BK115001.out 3
                go_wp2_with (first | ((with_reducible refine gate_callee (f := 144) rfl ?_); refine goesL_ (some 31) rfl rfl Try.func144 (by kernel_rfl) rfl #[.agg #[.int .i64 a0_0, .int .i64 a0_1, .int .i64 a0_2, .slice Ao3 x115002003_2.length co3], .int .i64 (wrap64 (a1_4 + x5_2)), .int .i64 (wrap64 (a1_5 + x4_1))] rfl (by (try simp only [List.map_toArray, List.map_cons, List.map_nil]); rfl) ?_; (with_reducible refine (spec_onImage.calls a0_0 a0_1 a0_2 _ _ x115002003_2 (wrap64 (a1_4 + x5_2)) (wrap64 (a1_5 + x4_1)) false _ ?side1 ?side2 A10.out).mono ?_); (case side1 => repeat (exact (Kd.R_reads' HO_115002003.out).2.2)); (case side2 => exact (Kd.R_reads' HO_115002003.out).2.1); rintro e w36 ⟨rfl, hb⟩; refine ⟨_, rfl, ?_⟩; have n0_ := Aside0.mk (Kd.R_below HO_115002003.out hb); have n1_ := Aside0.mk (blk_below BK115001.out hb); have n2_ := Aside0.mk (blk_below BK115002.out hb); have n3_ := Aside0.mk (Kept.below (S := (fun k_ => P0_3_ k_)) HK.out hb); have n4_ := Aside0.mk (below_step HB.out hb); clear HO_115002003; clear BK115001; clear BK115002; clear HK; clear HB; have HO_115002003 := n0_; have BK115001 := n1_; have BK115002 := n2_; have HK := n3_; have HB := n4_; clear n0_ n1_ n2_ n3_ n4_; (try clear hb)))
                (try simp only [← hl115002003_2])
                go_roundg k2
                case measure => have := HK1.out; have := HK2.out; omega
                case rel => exact ⟨(wrap64 (x5_2 + 1)), (x115002003_2), (by rfl), H', ⟨by have := HK1.out; have := HK2.out; omega⟩, ⟨by (try simp only [hl115002003_2]); (with_reducible repeat (first | apply Kd.R_alloc | apply Kd.R_drewN | apply Kd.R_drew)); exact HO_115002003.out⟩, ⟨by (try simp only [hl115002003_2]); (with_reducible repeat (first | refine blk_drewN ?_ _ | refine blk_drew ?_ | refine blk_alloc ?_ _)); exact BK115001.out⟩, ⟨by (with_reducible repeat (first | refine blk_drewN ?_ _ | refine blk_drew ?_ | refine blk_alloc ?_ _)); exact BK115002.out⟩, ⟨by exact HK.out⟩, ⟨by exact HB.out⟩⟩
            · rw [if_neg c9] at H
              have c9b0 : decide (x5_2 < a1_0) = false := decide_eq_false c9
              clear c9
              have H' := Aside0.mk H
              clear H
              have hnb37 := NB115002_115001.out
              have hnc37 := NB115001_115002.out
              have hcz38_0 : wr.cell? ⟨gb115002, 0, none⟩ = some (.int .i64 a1_0) := (blk_cell BK115002.out 0).trans rfl
              have hcz38_1 : wr.cell? ⟨gb115002, 1, none⟩ = some (.int .i64 a1_1) := (blk_cell BK115002.out 1).trans rfl
              have hcz38_2 : wr.cell? ⟨gb115002, 2, none⟩ = some (.int .i64 a1_2) := (blk_cell BK115002.out 2).trans rfl
              have hcz38_3 : wr.cell? ⟨gb115002, 3, none⟩ = some (.slice A1_3 l1_3.length c1_3) := (blk_cell BK115002.out 3).trans rfl
              have hcz38_4 : wr.cell? ⟨gb115002, 4, none⟩ = some (.int .i64 a1_4) := (blk_cell BK115002.out 4).trans rfl
              have hcz38_5 : wr.cell? ⟨gb115002, 5, none⟩ = some (.int .i64 a1_5) := (blk_cell BK115002.out 5).trans rfl
              have hcz38_6 : wr.cell? ⟨gb115002, 6, none⟩ = some (.int .i64 a1_6) := (blk_cell BK115002.out 6).trans rfl
              have hcz38_7 : wr.cell? ⟨gb115002, 7, none⟩ = some (.int .i64 a1_7) := (blk_cell BK115002.out 7).trans rfl
              have hcz38_8 : wr.cell? ⟨gb115002, 8, none⟩ = some (.bool a1_8) := (blk_cell BK115002.out 8).trans rfl
              have hfz38_0 := blk_frozen BK115002.out 0
              have hfz38_1 := blk_frozen BK115002.out 1
              have hfz38_2 := blk_frozen BK115002.out 2
              have hfz38_3 := blk_frozen BK115002.out 3
              have hfz38_4 := blk_frozen BK115002.out 4
              have hfz38_5 := blk_frozen BK115002.out 5
              have hfz38_6 := blk_frozen BK115002.out 6
              have hfz38_7 := blk_frozen BK115002.out 7
              have hfz38_8 := blk_frozen BK115002.out 8
              go_wp2
              (try simp only [← hl115002003_1, ← hl115002003_2])
              go_roundg k2
              case measure => have := HK1.out; have := HK2.out; omega
              case rel => exact ⟨(wrap64 (x4_1 + 1)), (x115002003_2), (by rfl), H', ⟨by have := HK1.out; have := HK2.out; omega⟩, ⟨by (try simp only [hl115002003_1]); (try simp only [hl115002003_2]); (with_reducible repeat (first | apply Kd.R_alloc | apply Kd.R_drewN | apply Kd.R_drew)); exact HO_115002003.out⟩, ⟨by (try simp only [hl115002003_1]); (try simp only [hl115002003_2]); (with_reducible repeat (first | refine blk_drewN ?_ _ | refine blk_drew ?_ | refine blk_alloc ?_ _)); exact BK115001.out⟩, ⟨by (with_reducible repeat (first | refine blk_drewN ?_ _ | refine blk_drew ?_ | refine blk_alloc ?_ _)); exact BK115002.out⟩, ⟨by exact HK.out⟩, ⟨by exact HB.out⟩⟩
      · rw [if_neg c6] at H
        have c6b0 : decide (x4_1 < a1_1) = false := decide_eq_false c6
        clear c6
        obtain rfl := Option.some.inj H
        have hnb39 := NB115002_115001.out
        have hnc39 := NB115001_115002.out
        have hcz40_0 : wr.cell? ⟨gb115002, 0, none⟩ = some (.int .i64 a1_0) := (blk_cell BK115002.out 0).trans rfl
        have hcz40_1 : wr.cell? ⟨gb115002, 1, none⟩ = some (.int .i64 a1_1) := (blk_cell BK115002.out 1).trans rfl
        have hcz40_2 : wr.cell? ⟨gb115002, 2, none⟩ = some (.int .i64 a1_2) := (blk_cell BK115002.out 2).trans rfl
        have hcz40_3 : wr.cell? ⟨gb115002, 3, none⟩ = some (.slice A1_3 l1_3.length c1_3) := (blk_cell BK115002.out 3).trans rfl
        have hcz40_4 : wr.cell? ⟨gb115002, 4, none⟩ = some (.int .i64 a1_4) := (blk_cell BK115002.out 4).trans rfl
        have hcz40_5 : wr.cell? ⟨gb115002, 5, none⟩ = some (.int .i64 a1_5) := (blk_cell BK115002.out 5).trans rfl
        have hcz40_6 : wr.cell? ⟨gb115002, 6, none⟩ = some (.int .i64 a1_6) := (blk_cell BK115002.out 6).trans rfl
        have hcz40_7 : wr.cell? ⟨gb115002, 7, none⟩ = some (.int .i64 a1_7) := (blk_cell BK115002.out 7).trans rfl
        have hcz40_8 : wr.cell? ⟨gb115002, 8, none⟩ = some (.bool a1_8) := (blk_cell BK115002.out 8).trans rfl
        have hfz40_0 := blk_frozen BK115002.out 0
        have hfz40_1 := blk_frozen BK115002.out 1
        have hfz40_2 := blk_frozen BK115002.out 2
        have hfz40_3 := blk_frozen BK115002.out 3
        have hfz40_4 := blk_frozen BK115002.out 4
        have hfz40_5 := blk_frozen BK115002.out 5
        have hfz40_6 := blk_frozen BK115002.out 6
        have hfz40_7 := blk_frozen BK115002.out 7
        have hfz40_8 := blk_frozen BK115002.out 8
        go_wp2
        go_end0
        exact ⟨by rfl, HO_115002003.out, by exact HB.out, by exact HK.out⟩

end Go.Proofs.Ytnofkbbcbpjhfaa.Q
