/- A part of the proof that the statement FnRedrawTilesSaid holds, under no condition of its own: Redrawn tiles are those of the whole picture: the law FnRedrawTiles over lists of numbers alone. -/
import Derived.Test.YtnofkbbcbpjhfaaCFnRedrawTiles1
namespace Go.Proofs.Ytnofkbbcbpjhfaa.Q
open Go.RowKit Go.Proofs.YtnofkbbcbpjhfaaW.PrintWords Go.Proofs.YtnofkbbcbpjhfaaW.PrintLast Go.Proofs.YtnofkbbcbpjhfaaW.PrintMore
attribute [local go_sem] max2_int min2_int max_two min_two max_three min_three max_four min_four
set_option linter.unusedVariables false
set_option linter.unusedSimpArgs false
open Go.Proofs.YtnofkbbcbpjhfaaW.PrintWords.Aside0 (mk)
set_option maxHeartbeats 12000000
set_option maxRecDepth 100000
def spec_flatten.l0 : Nat → List S55 → Int → Int → Int → Int → List Int → Option (Int × Int × Int × List Int)
 | 0, _, _, _, _, _, _ => none
 | k + 1, x1, x6, xz1, xz2, xz3, xz4 => if x6 < (x1.length : Int) then (if 0 ≤ x6 then (if ((rd_T55 x1 x6).f5 = true) then (spec_flatten.l0 k x1 (wrap64 (x6 + 1)) xz1 xz2 xz3 xz4) else ((spec_blendPaste.f k xz1 xz2 xz3 xz4 ((rd_T55 x1 x6).f0.f0) ((rd_T55 x1 x6).f0.f1) ((rd_T55 x1 x6).f0.f2) ((rd_T55 x1 x6).f0.f3) ((rd_T55 x1 x6).f1) ((rd_T55 x1 x6).f2) ((rd_T55 x1 x6).f3) ((rd_T55 x1 x6).f4) ((rd_T55 x1 x6).f5)).bind fun tz3 => (spec_flatten.l0 k x1 (wrap64 (x6 + 1)) xz1 xz2 xz3 tz3))) else none) else (some (xz1, xz2, xz3, xz4))
def spec_flatten.f (k : Nat) (a0_0 : Int) (a0_1 : Int) (a0_2 : Int) (l0_3 : List Int) (l1 : List S55) : Option (Int × Int × Int × List Int) := (spec_copyImage.f a0_0 a0_1 a0_2 l0_3).bind fun btz0 => (spec_flatten.l0 k l1 0 btz0.1 btz0.2.1 btz0.2.2.1 btz0.2.2.2)
theorem spec_flatten.calls (k : Nat) (a0_0 : Int) (a0_1 : Int) (a0_2 : Int) (A0_3 : Option Addr) (c0_3 : Nat) (l0_3 : List Int) (A1 : Option Addr) (c1 : Nat) (l1 : List S55) (r1 : Int) (r2 : Int) (r3 : Int) (r4 : List Int) (w : World) (hr0_3 : Kd.C (Kd.int .i64) w A0_3 l0_3.length l0_3) (hc0_3 : l0_3.length ≤ c0_3) (hr1 : Kd.C k55 w A1 l1.length l1) (hc1 : l1.length ≤ c1) (h : spec_flatten.f k a0_0 a0_1 a0_2 l0_3 l1 = some (r1, r2, r3, r4)) :
  Calls Try.prog 118 #[.agg #[.int .i64 a0_0, .int .i64 a0_1, .int .i64 a0_2, .slice A0_3 l0_3.length c0_3], .slice A1 l1.length c1] w fun e w' => ∃ v3_ : Value, e = .returned (.agg #[.int .i64 r1, .int .i64 r2, .int .i64 r3, v3_]) ∧ Kd.R (Kd.int .i64) 3 w' w.heap.size (fun _ => True) v3_ r4 ∧ Below w.heap.size w w' := by
 have hu27 := Try.underlying27
 have hu55 := Try.underlying55
 have HR0_3 := mk hr0_3
 have HC0_3 := mk hc0_3
 clear hr0_3 hc0_3
 have HR1 := mk hr1
 have HC1 := mk hc1
 clear hr1 hc1
 have HB := mk (Below.refl w.heap.size w)
 have H : ((spec_copyImage.f a0_0 a0_1 a0_2 l0_3).bind fun btz0 => (spec_flatten.l0 k l1 0 btz0.1 btz0.2.1 btz0.2.2.1 btz0.2.2.2)) = some (r1, r2, r3, r4) := h
 clear h
 replace H := Option.bind_eq_some_iff.mp H
 obtain ⟨⟨tz0, tz1, tz2, tz4⟩, A30, H⟩ := H
 replace H : (spec_flatten.l0 k l1 0 tz0 tz1 tz2 tz4) = some (r1, r2, r3, r4) := H
 have A3 := mk A30
 clear A30
 have H' := mk H
 clear H
 go_enter Try.func118, Try.ntmps118
 go_wp2_with (first | ((with_reducible refine gate_dst (N := 2) rfl ?_); refine box_event (by rfl) (N := 2) (by rfl) (cs := #[.int .i64 a0_0, .int .i64 a0_1, .int .i64 a0_2, .slice A0_3 l0_3.length c0_3]) (t := 27) (by go_simp; done) ?_; intro gbz2 hg w4 hbox hb; replace HB := mk (below_step HB.out hb); have BKz1 := mk (hbox); clear hb hbox hg) | ((with_reducible refine gate_dst (N := 4) rfl ?_); refine box_event (by rfl) (N := 4) (by rfl) (cs := #[.int .i64 0, .int .i64 0, .int .i64 0, .slice none 0 0]) (t := 27) (by go_simp; done) ?_; intro gbz1 hg w5 hbox hb; replace BKz1 := mk (blk_below BKz1.out hb); have BKz2 := mk (hbox); have GEz0 := mk ((by rw [hg]; exact (below_size HB.out) : w.heap.size ≤ gbz1)); replace HB := mk (below_step HB.out hb); clear hb hbox hg; obtain ⟨hcz7_0, hcz7_1, hcz7_2, hcz7_3, hfz7_0, hfz7_1, hfz7_2, -⟩ := c4 BKz1.out; have hfz7_3 := blk_frozen BKz1.out 3) | ((with_reducible refine gate_callee (f := 113) rfl ?_); refine goesL_ (some 8) rfl rfl Try.func113 (by kernel_rfl) rfl #[.agg #[.int .i64 a0_0, .int .i64 a0_1, .int .i64 a0_2, .slice A0_3 l0_3.length c0_3]] rfl (by (try simp only [bitvec_to_nat]); rfl) ?_; (with_reducible refine (spec_copyImage.calls a0_0 a0_1 a0_2 _ _ l0_3 tz0 tz1 tz2 tz4 _ ?side1 ?side2 A3.out).mono ?_); (case side1 => repeat (exact (Kd.C_below HR0_3.out HB.out))); (case side2 => exact HC0_3.out); rintro e w8 ⟨vz0, rfl, ho0, hb⟩; refine ⟨_, rfl, ?_⟩; have HOz1 := mk (Kd.R_lower ho0 (below_size HB.out)); replace BKz1 := mk (blk_below BKz1.out hb); replace BKz2 := mk (blk_below BKz2.out hb); replace HB := mk (below_step HB.out hb); (try clear hb); (try clear ho0)) | ((with_reducible refine gate_dst (N := 5) rfl ?_); refine box_event (by rfl) (N := 5) (by rfl) (cs := #[.int .i64 0, .int .i64 0, .int .i64 0, .slice none 0 0]) (t := 27) (by go_simp; done) ?_; intro gbz0 hg w9 hbox hb; replace HOz1 := mk (Kd.R_below HOz1.out hb); have BKz0 := mk (hbox); have GEz1 := mk ((by rw [hg]; exact (below_size HB.out) : w.heap.size ≤ gbz0)); replace HB := mk (below_step HB.out hb); have NBz0 := mk ((by rw [hg]; exact Nat.ne_of_lt (blk_lt BKz1.out) : gbz2 ≠ gbz0)); replace BKz1 := mk (blk_below BKz1.out hb); have NBz1 := mk ((by rw [hg]; exact Nat.ne_of_lt (blk_lt BKz2.out) : gbz1 ≠ gbz0)); replace BKz2 := mk (blk_below BKz2.out hb); clear hb hbox hg; obtain ⟨hcz12_0, hcz12_1, hcz12_2, hcz12_3, hfz12_0, hfz12_1, hfz12_2, hfz12_3⟩ := c4 BKz0.out; obtain ⟨Ao13, co13, eo13⟩ := Kd.R_slice HOz1.out; subst eo13))
 go_loopg [6] k (fun kq v6 w' => ∃ (x6_1 : Int) (xz0 : List Int) (aC : Value), v6 = .int .i64 x6_1 ∧ Aside0 (spec_flatten.l0 kq l1 x6_1 tz0 tz1 tz2 xz0 = some (r1, r2, r3, r4)) ∧ Aside0 (kq ≤ k) ∧ Aside0 (Kd.R (Kd.int .i64) 3 w' w.heap.size (fun _ => True) aC xz0) ∧ Aside0 (w'.heap[gbz2]? = some (.cells #[.int .i64 a0_0, .int .i64 a0_1, .int .i64 a0_2, (.slice A0_3 l0_3.length c0_3)] 27 (0, 0))) ∧ Aside0 (w'.heap[gbz1]? = some (.cells #[.int .i64 0, .int .i64 0, .int .i64 0, (.slice none 0 0)] 27 (0, 0))) ∧ Aside0 (w'.heap[gbz0]? = some (.cells #[.int .i64 tz0, .int .i64 tz1, .int .i64 tz2, aC] 27 (0, 0))) ∧ Aside0 (Below w.heap.size w w'))
 case atStart => exact ⟨(0), (tz4), (.slice Ao13 tz4.length co13), (by rfl), H', ⟨Nat.le_refl _⟩, ⟨by exact Kd.R_mono (Kd.R_far (p := ⟨gbz0, 3, none⟩) (Kd.R_far (p := ⟨gbz0, 2, none⟩) (Kd.R_far (p := ⟨gbz0, 1, none⟩) (Kd.R_far (p := ⟨gbz0, 0, none⟩) (Kd.R_types HOz1.out BKz0.out (by decide)) (fun _ hk => hk.2) (.int .i64 tz0)) (fun _ hk => hk.2) (.int .i64 tz1)) (fun _ hk => hk.2) (.int .i64 tz2)) (fun _ hk => hk.2) (.slice Ao13 tz4.length co13)) (fun _ hk => trivial)⟩, ⟨by refine blk_far ?_ NBz0.out _; refine blk_far ?_ NBz0.out _; refine blk_far ?_ NBz0.out _; refine blk_far ?_ NBz0.out _; exact BKz1.out⟩, ⟨by refine blk_far ?_ NBz1.out _; refine blk_far ?_ NBz1.out _; refine blk_far ?_ NBz1.out _; refine blk_far ?_ NBz1.out _; exact BKz2.out⟩, ⟨by refine blk_put (cs := #[.int .i64 tz0, .int .i64 tz1, .int .i64 tz2, .slice none 0 0]) ?_ 3 _ rfl; refine blk_put (cs := #[.int .i64 tz0, .int .i64 tz1, .int .i64 0, .slice none 0 0]) ?_ 2 _ rfl; refine blk_put (cs := #[.int .i64 tz0, .int .i64 0, .int .i64 0, .slice none 0 0]) ?_ 1 _ rfl; refine blk_put (cs := #[.int .i64 0, .int .i64 0, .int .i64 0, .slice none 0 0]) ?_ 0 _ rfl; exact BKz0.out⟩, ⟨by repeat (with_reducible first | exact HB.out | refine below_set ?_ GEz1.out)⟩⟩
 case round =>
  clear H'
  obtain ⟨x6_1, xz0, aC, rfl, HA, HK1, HOz0, BKz1, BKz2, BKz0, HB⟩ := hrel
  cases gk with
  | zero => exact absurd HA.out (by simp [spec_flatten.l0])
  | succ k1 =>
   have H := HA.out
   clear HA
   simp only [spec_flatten.l0] at H
   by_cases c14 : x6_1 < (l1.length : Int)
   ·rw [if_pos c14] at H
    have c14b0 : decide (x6_1 < (l1.length : Int)) = true := decide_eq_true c14
    clear c14
    by_cases c15 : 0 ≤ x6_1
    ·rw [if_pos c15] at H
     have c15b0 : decide (0 ≤ x6_1) = true := decide_eq_true c15
     clear c15
     obtain ⟨bq16, hbq16⟩ : ∃ b_ : Bool, b_ = ((rd_T55 l1 x6_1).f5) := ⟨_, rfl⟩
     replace H : (if (bq16 = true) then (spec_flatten.l0 k1 l1 (wrap64 (x6_1 + 1)) tz0 tz1 tz2 xz0) else ((spec_blendPaste.f k1 tz0 tz1 tz2 xz0 ((rd_T55 l1 x6_1).f0.f0) ((rd_T55 l1 x6_1).f0.f1) ((rd_T55 l1 x6_1).f0.f2) ((rd_T55 l1 x6_1).f0.f3) ((rd_T55 l1 x6_1).f1) ((rd_T55 l1 x6_1).f2) ((rd_T55 l1 x6_1).f3) ((rd_T55 l1 x6_1).f4) bq16).bind fun tz3 => (spec_flatten.l0 k1 l1 (wrap64 (x6_1 + 1)) tz0 tz1 tz2 tz3))) = some (r1, r2, r3, r4) := by rw [← hbq16] at H; exact H
     have Nbq16 := mk hbq16
     clear hbq16
     by_cases c17 : (bq16 = true)
     ·subst c17
      have H1 : (spec_flatten.l0 k1 l1 (wrap64 (x6_1 + 1)) tz0 tz1 tz2 xz0) = some (r1, r2, r3, r4) := by rw [if_pos rfl] at H; exact H
      clear H
      have H := H1
      clear H1
      have H' := mk H
      clear H
      have aO : 0 ≤ (x6_1 : Int) := of_decide_eq_true (by (with_reducible assumption))
      have aP : x6_1 < (l1.length : Int) := of_decide_eq_true (by (with_reducible assumption))
      obtain ⟨aA, Az1, cz1, bK, aD, aE, aF, aG, aH, aI, aJ, aK, aB, aL, aM⟩ := at_T55 HR1.out x6_1 aO aP
      (try rw [← Nbq16.out] at aB)
      cases bK
      replace aD := bc HB.out aD
      replace aE := bc HB.out aE
      replace aF := bc HB.out aF
      replace aG := bc HB.out aG
      replace aH := bc HB.out aH
      replace aI := bc HB.out aI
      replace aJ := bc HB.out aJ
      replace aK := bc HB.out aK
      replace aB := bc HB.out aB
      have bN := mk aM
      have bO := mk aL
      clear aM aL
      replace aO := eq_true aO
      replace aP := eq_true aP
      go_wp2
      go_roundg k1
      case measure => have := HK1.out; omega
      case rel => exact ⟨(wrap64 (x6_1 + 1)), (xz0), (aC), (by rfl), H', ⟨by have := HK1.out; omega⟩, HOz0, BKz1, BKz2, BKz0, HB⟩
     replace c17 := Bool.eq_false_iff.mpr c17
     subst c17
     have H1 : ((spec_blendPaste.f k1 tz0 tz1 tz2 xz0 ((rd_T55 l1 x6_1).f0.f0) ((rd_T55 l1 x6_1).f0.f1) ((rd_T55 l1 x6_1).f0.f2) ((rd_T55 l1 x6_1).f0.f3) ((rd_T55 l1 x6_1).f1) ((rd_T55 l1 x6_1).f2) ((rd_T55 l1 x6_1).f3) ((rd_T55 l1 x6_1).f4) false).bind fun tz3 => (spec_flatten.l0 k1 l1 (wrap64 (x6_1 + 1)) tz0 tz1 tz2 tz3)) = some (r1, r2, r3, r4) := by rw [if_neg (show ¬ (false = true) by decide)] at H; exact H
     clear H
     have H := H1
     clear H1
     replace H := Option.bind_eq_some_iff.mp H
     obtain ⟨tz3, A180, H⟩ := H
     replace H : (spec_flatten.l0 k1 l1 (wrap64 (x6_1 + 1)) tz0 tz1 tz2 tz3) = some (r1, r2, r3, r4) := H
     have A18 := mk A180
     clear A180
     have H' := mk H
     clear H
     have aO : 0 ≤ (x6_1 : Int) := of_decide_eq_true (by (with_reducible assumption))
     have aP : x6_1 < (l1.length : Int) := of_decide_eq_true (by (with_reducible assumption))
     obtain ⟨aA, Az1, cz1, bK, aD, aE, aF, aG, aH, aI, aJ, aK, aB, aL, aM⟩ := at_T55 HR1.out x6_1 aO aP
     (try rw [← Nbq16.out] at aB)
     cases bK
     replace aD := bc HB.out aD
     replace aE := bc HB.out aE
     replace aF := bc HB.out aF
     replace aG := bc HB.out aG
     replace aH := bc HB.out aH
     replace aI := bc HB.out aI
     replace aJ := bc HB.out aJ
     replace aK := bc HB.out aK
     replace aB := bc HB.out aB
     have bN := mk aM
     have bO := mk aL
     clear aM aL
     replace aO := eq_true aO
     replace aP := eq_true aP
     try go_wp2
     replace HOz0 := mk (Kd.R_drew HOz0.out)
     replace BKz1 := mk (blk_drew BKz1.out)
     replace BKz2 := mk (blk_drew BKz2.out)
     replace BKz0 := mk (blk_drew BKz0.out)
     replace HB := mk (below_drew1 HB.out)
     have bL : 0 ≤ (x6_1 : Int) := of_decide_eq_true (by (with_reducible assumption))
     have bM : x6_1 < (l1.length : Int) := of_decide_eq_true (by (with_reducible assumption))
     obtain ⟨bQ, Az0, cz0, bR, aQ, aR, aS, aT, aU, aV, aW, aX, aN, aZ, bA⟩ := at_T55 HR1.out x6_1 bL bM
     have aY := aN
     have bB := aX
     have bC := aW
     have bD := aV
     have bE := aU
     have bF := aT
     have bG := aS
     have bH := aR
     have bI := aQ
     (try rw [← Nbq16.out] at aN); (try rw [← Nbq16.out] at aY)
     obtain rfl : aA = bQ := (by injection bR)
     replace aQ := bc HB.out aQ
     replace aR := bc HB.out aR
     replace aS := bc HB.out aS
     replace aT := bc HB.out aT
     replace aU := bc HB.out aU
     replace aV := bc HB.out aV
     replace aW := bc HB.out aW
     replace aX := bc HB.out aX
     replace aN := bc HB.out aN
     have bJ := mk bA
     have bP := mk aZ
     clear bA aZ
     replace bL := eq_true bL
     replace bM := eq_true bM
     obtain ⟨Ao20, co20, eo20⟩ := Kd.R_slice HOz0.out
     (subst eo20)
     refine start_ (n := 6) (S := fun w' => w'.cell? ⟨gbz0, 0, none⟩ = some (.int .i64 tz0) ∧ w'.cell? ⟨gbz0, 1, none⟩ = some (.int .i64 tz1) ∧ w'.cell? ⟨gbz0, 2, none⟩ = some (.int .i64 tz2) ∧ w'.cell? ⟨gbz0, 3, none⟩ = some (.slice Ao20 xz0.length co20) ∧ w'.cell? (aA.add ((x6_1).toNat * 9)) = some (.int .i64 ((rd_T55 l1 x6_1).f0.f0)) ∧ w'.cell? ⟨(aA.add ((x6_1).toNat * 9)).block, (aA.add ((x6_1).toNat * 9)).off + 1, none⟩ = some (.int .i64 ((rd_T55 l1 x6_1).f0.f1)) ∧ w'.cell? ⟨(aA.add ((x6_1).toNat * 9)).block, (aA.add ((x6_1).toNat * 9)).off + 2, none⟩ = some (.int .i64 ((rd_T55 l1 x6_1).f0.f2)) ∧ w'.cell? ⟨(aA.add ((x6_1).toNat * 9)).block, (aA.add ((x6_1).toNat * 9)).off + 3, none⟩ = some (.slice Az0 ((rd_T55 l1 x6_1).f0.f3).length cz0) ∧ w'.cell? ⟨(aA.add ((x6_1).toNat * 9)).block, (aA.add ((x6_1).toNat * 9)).off + 4, none⟩ = some (.int .i64 ((rd_T55 l1 x6_1).f1)) ∧ w'.cell? ⟨(aA.add ((x6_1).toNat * 9)).block, (aA.add ((x6_1).toNat * 9)).off + 5, none⟩ = some (.int .i64 ((rd_T55 l1 x6_1).f2)) ∧ w'.cell? ⟨(aA.add ((x6_1).toNat * 9)).block, (aA.add ((x6_1).toNat * 9)).off + 6, none⟩ = some (.int .i64 ((rd_T55 l1 x6_1).f3)) ∧ w'.cell? ⟨(aA.add ((x6_1).toNat * 9)).block, (aA.add ((x6_1).toNat * 9)).off + 7, none⟩ = some (.int .i64 ((rd_T55 l1 x6_1).f4)) ∧ w'.cell? ⟨(aA.add ((x6_1).toNat * 9)).block, (aA.add ((x6_1).toNat * 9)).off + 8, none⟩ = some (.bool false)) (ds := []) #[false, false, false, false, false, false] (by kernel_rfl) rfl rfl ⟨blk_cell BKz0.out 0, blk_cell BKz0.out 1, blk_cell BKz0.out 2, blk_cell BKz0.out 3, bc HB.out bI, bc HB.out bH, bc HB.out bG, bc HB.out bF, bc HB.out bE, bc HB.out bD, bc HB.out bC, bc HB.out bB, bc HB.out aY⟩ (fun hHeld => ?_)
     generalize wr.drew = w19 at HOz0 BKz1 BKz2 BKz0 HB bJ aQ aR aS aT aU aV aW aX aN hHeld ⊢
     refine pu 1 22 ?_ ?_ rfl rfl (by kernel_rfl) (Or.inl ⟨by rfl, ?_⟩) ?_ ?_
     rotate_left 2
     ·intro w'
      go_simp
      with_reducible rfl
     ·simp only [seval]
      rfl
     refine pu 2 23 ?_ ?_ rfl rfl (by kernel_rfl) (Or.inl ⟨by rfl, ?_⟩) ?_ ?_
     rotate_left 2
     ·intro w'
      go_simp
      with_reducible rfl
     ·simp only [seval]
      rfl
     refine pu 3 24 ?_ ?_ rfl rfl (by kernel_rfl) (Or.inl ⟨by rfl, ?_⟩) ?_ ?_
     rotate_left 2
     ·intro w'
      go_simp
      with_reducible rfl
     ·simp only [seval]
      rfl
     refine tk 0 21 ?_ ?_ rfl rfl (by kernel_rfl) (Or.inl ⟨by rfl, ?_⟩) hHeld ?_ ?_
     rotate_left 2
     ·rintro w' ⟨s0, s1, s2, s3, s4, s5, s6, s7, s8, s9, s10, s11, s12⟩
      go_simp
      with_reducible rfl
     ·simp only [seval]
      rfl
     refine tk 4 25 ?_ ?_ rfl rfl (by kernel_rfl) (Or.inl ⟨by rfl, ?_⟩) hHeld ?_ ?_
     rotate_left 2
     ·rintro w' ⟨s0, s1, s2, s3, s4, s5, s6, s7, s8, s9, s10, s11, s12⟩
      go_simp
      with_reducible rfl
     ·simp only [seval]
      rfl
     refine one_ (i := 5) (N := some 26) #[true, true, true, true, true, true] rfl rfl (by kernel_rfl) (by decide) (fun K hK => ?_)
     refine goes_ Try.func114 (by kernel_rfl) rfl #[.agg #[.int .i64 tz0, .int .i64 tz1, .int .i64 tz2, .slice Ao20 xz0.length co20], .agg #[.int .i64 ((rd_T55 l1 x6_1).f0.f0), .int .i64 ((rd_T55 l1 x6_1).f0.f1), .int .i64 ((rd_T55 l1 x6_1).f0.f2), .slice Az0 ((rd_T55 l1 x6_1).f0.f3).length cz0, .int .i64 ((rd_T55 l1 x6_1).f1), .int .i64 ((rd_T55 l1 x6_1).f2), .int .i64 ((rd_T55 l1 x6_1).f3), .int .i64 ((rd_T55 l1 x6_1).f4), .bool false]] (by rfl) rfl rfl (by (try simp only [bitvec_to_nat]); rfl) ?_
     with_reducible refine (spec_blendPaste.calls k1 tz0 tz1 tz2 (fun k_ => some k_ = (.slice Ao20 xz0.length co20 : Value).ownBlock) (.slice Ao20 xz0.length co20) xz0 ((rd_T55 l1 x6_1).f0.f0) ((rd_T55 l1 x6_1).f0.f1) ((rd_T55 l1 x6_1).f0.f2) _ _ ((rd_T55 l1 x6_1).f0.f3) ((rd_T55 l1 x6_1).f1) ((rd_T55 l1 x6_1).f2) ((rd_T55 l1 x6_1).f3) ((rd_T55 l1 x6_1).f4) false tz3 w _ ?side1 ?side2 ?side3 ?side4 A18.out).mono ?_
     (case side1 => repeat (with_reducible exact HB.out))
     (case side2 => exact Kd.R_tight rfl HOz0.out)
     (case side3 => exact Kd.C_kept_came (Kd.heap_int .i64) bJ.out HB.out (fun k_ hs_ => (fun e_ => Kd.R_base HOz0.out k_ e_.symm) hs_))
     (case side4 => exact bP.out)
     rintro e w21 ⟨rfl, hy0, hb, hkp⟩
     refine ⟨_, rfl, ?_⟩
     replace BKz1 := mk (blk_kept BKz1.out hkp (fun hs_ => (fun e_ => (Kd.R_ne HOz0.out BKz1.out (by decide)) e_) hs_))
     replace BKz2 := mk (blk_kept BKz2.out hkp (fun hs_ => (fun e_ => (Kd.R_ne HOz0.out BKz2.out (by decide)) e_) hs_))
     replace BKz0 := mk (blk_kept BKz0.out hkp (fun hs_ => (fun e_ => (Kd.R_ne HOz0.out BKz0.out (by decide)) e_) hs_))
     replace HOz0 := mk (Kd.R_reok rfl hy0 (fun k_ e_ => HOz0.out.1 k_ e_))
     replace HB := mk (hb)
     (try clear hb)
     (try clear hkp)
     (try clear hy0)
     refine hK.out _ _ ⟨blk_cell BKz0.out 0, blk_cell BKz0.out 1, blk_cell BKz0.out 2, blk_cell BKz0.out 3, bc HB.out bI, bc HB.out bH, bc HB.out bG, bc HB.out bF, bc HB.out bE, bc HB.out bD, bc HB.out bC, bc HB.out bB, bc HB.out aY⟩ (fun hHeld => ?_)
     clear hK K
     refine norm_ (a' := ?_) ?_ ?_
     rotate_left
     ·show Act.put _ (some 26) _ = _
      simp only [seval]
      rfl
     refine done_ (by kernel_rfl) ?_
     try go_wp2
     go_roundg k1
     case measure => have := HK1.out; omega
     case rel => exact ⟨(wrap64 (x6_1 + 1)), (tz3), (.slice Ao20 xz0.length co20), (by rfl), H', ⟨by have := HK1.out; omega⟩, HOz0, BKz1, BKz2, BKz0, HB⟩
    rw [if_neg c15] at H
    exact absurd H (by simp)
   rw [if_neg c14] at H
   have c14b0 : decide (x6_1 < (l1.length : Int)) = false := decide_eq_false c14
   clear c14
   simp only [Option.some.injEq, Prod.mk.injEq] at H
   obtain ⟨rfl, rfl, rfl, rfl⟩ := H
   obtain ⟨hcz24_0, hcz24_1, hcz24_2, -⟩ := c4 BKz0.out
   have hcz24_3 : wr.cell? ⟨gbz0, 3, none⟩ = some aC := (blk_cell BKz0.out 3).trans rfl
   obtain ⟨hcz26_0, hcz26_1, hcz26_2, hcz26_3, hfz26_0, hfz26_1, hfz26_2, hfz26_3⟩ := c4 BKz2.out
   obtain ⟨Ao27, co27, eo27⟩ := Kd.R_slice HOz0.out
   subst eo27
   go_wp2
   refine bodyPost_ret (results_cell_row rfl _ _ gbz1 27 #[.int .i64 tz0, .int .i64 tz1, .int .i64 tz2, .slice Ao27 xz0.length co27] (0, 0) _ rfl (by refine blk_put (cs := #[.int .i64 tz0, .int .i64 tz1, .int .i64 tz2, .slice none 0 0]) ?_ 3 _ rfl; refine blk_put (cs := #[.int .i64 tz0, .int .i64 tz1, .int .i64 0, .slice none 0 0]) ?_ 2 _ rfl; refine blk_put (cs := #[.int .i64 tz0, .int .i64 0, .int .i64 0, .slice none 0 0]) ?_ 1 _ rfl; refine blk_put (cs := #[.int .i64 0, .int .i64 0, .int .i64 0, .slice none 0 0]) ?_ 0 _ rfl; exact BKz2.out) Try.underlying27 rfl (by kernel_rfl)) rfl ?_
   exact ⟨_, by rfl, by exact Kd.R_mono (Kd.R_far (p := ⟨gbz1, 3, none⟩) (Kd.R_far (p := ⟨gbz1, 2, none⟩) (Kd.R_far (p := ⟨gbz1, 1, none⟩) (Kd.R_far (p := ⟨gbz1, 0, none⟩) (Kd.R_types HOz0.out BKz2.out (by decide)) (fun _ hk => hk.2) (.int .i64 tz0)) (fun _ hk => hk.2) (.int .i64 tz1)) (fun _ hk => hk.2) (.int .i64 tz2)) (fun _ hk => hk.2) (.slice Ao27 xz0.length co27)) (fun _ hk => trivial), by repeat (with_reducible first | exact HB.out | refine below_set ?_ GEz0.out)⟩


def spec_FlattenLayers.f (k : Nat) (a0_0 : Int) (a0_1 : Int) (a0_2 : Int) (l0_3 : List Int) (l1 : List S55) : Option (Int × Int × Int × List Int × Bool) := (spec_validImage.f k a0_0 a0_1 a0_2 l0_3).bind fun tz2 => (if tz2 = true then ((spec_validLayers.f k l1 a0_2).bind fun tz0 => (if tz0 = true then ((spec_flatten.f k a0_0 a0_1 a0_2 l0_3 l1).bind fun btz0 => (some (btz0.1, btz0.2.1, btz0.2.2.1, btz0.2.2.2, true))) else (some (0, 0, 0, ([] : List Int), false)))) else (some (0, 0, 0, ([] : List Int), false)))
theorem spec_FlattenLayers.calls (k : Nat) (a0_0 : Int) (a0_1 : Int) (a0_2 : Int) (A0_3 : Option Addr) (c0_3 : Nat) (l0_3 : List Int) (A1 : Option Addr) (c1 : Nat) (l1 : List S55) (r1 : Int) (r2 : Int) (r3 : Int) (r4 : List Int) (r5 : Bool) (w : World) (hr0_3 : Kd.C (Kd.int .i64) w A0_3 l0_3.length l0_3) (hc0_3 : l0_3.length ≤ c0_3) (hr1 : Kd.C k55 w A1 l1.length l1) (hc1 : l1.length ≤ c1) (h : spec_FlattenLayers.f k a0_0 a0_1 a0_2 l0_3 l1 = some (r1, r2, r3, r4, r5)) :
  Calls Try.prog 65 #[.agg #[.int .i64 a0_0, .int .i64 a0_1, .int .i64 a0_2, .slice A0_3 l0_3.length c0_3], .slice A1 l1.length c1] w fun e w' => ∃ v3_ : Value, e = .returned (.tuple #[.agg #[.int .i64 r1, .int .i64 r2, .int .i64 r3, v3_], .bool r5]) ∧ Kd.R (Kd.int .i64) 3 w' w.heap.size (fun _ => True) v3_ r4 ∧ Below w.heap.size w w' := by
 have hu27 := Try.underlying27
 have HR0_3 := mk hr0_3
 have HC0_3 := mk hc0_3
 clear hr0_3 hc0_3
 have HR1 := mk hr1
 have HC1 := mk hc1
 clear hr1 hc1
 have HB := mk (Below.refl w.heap.size w)
 have H : ((spec_validImage.f k a0_0 a0_1 a0_2 l0_3).bind fun tz2 => (if tz2 = true then ((spec_validLayers.f k l1 a0_2).bind fun tz0 => (if tz0 = true then ((spec_flatten.f k a0_0 a0_1 a0_2 l0_3 l1).bind fun btz0 => (some (btz0.1, btz0.2.1, btz0.2.2.1, btz0.2.2.2, true))) else (some (0, 0, 0, ([] : List Int), false)))) else (some (0, 0, 0, ([] : List Int), false)))) = some (r1, r2, r3, r4, r5) := h
 clear h
 replace H := Option.bind_eq_some_iff.mp H
 obtain ⟨tz2, A30, H⟩ := H
 replace H : (if tz2 = true then ((spec_validLayers.f k l1 a0_2).bind fun tz0 => (if tz0 = true then ((spec_flatten.f k a0_0 a0_1 a0_2 l0_3 l1).bind fun btz0 => (some (btz0.1, btz0.2.1, btz0.2.2.1, btz0.2.2.2, true))) else (some (0, 0, 0, ([] : List Int), false)))) else (some (0, 0, 0, ([] : List Int), false))) = some (r1, r2, r3, r4, r5) := H
 have A3 := mk A30
 clear A30
 by_cases c4 : tz2 = true
 ·subst c4
  have H1 : ((spec_validLayers.f k l1 a0_2).bind fun tz0 => (if tz0 = true then ((spec_flatten.f k a0_0 a0_1 a0_2 l0_3 l1).bind fun btz0 => (some (btz0.1, btz0.2.1, btz0.2.2.1, btz0.2.2.2, true))) else (some (0, 0, 0, ([] : List Int), false)))) = some (r1, r2, r3, r4, r5) := by rw [if_pos rfl] at H; exact H
  clear H
  have H := H1
  clear H1
  replace H := Option.bind_eq_some_iff.mp H
  obtain ⟨tz0, A50, H⟩ := H
  replace H : (if tz0 = true then ((spec_flatten.f k a0_0 a0_1 a0_2 l0_3 l1).bind fun btz0 => (some (btz0.1, btz0.2.1, btz0.2.2.1, btz0.2.2.2, true))) else (some (0, 0, 0, ([] : List Int), false))) = some (r1, r2, r3, r4, r5) := H
  have A5 := mk A50
  clear A50
  by_cases c6 : tz0 = true
  ·subst c6
   have H1 : ((spec_flatten.f k a0_0 a0_1 a0_2 l0_3 l1).bind fun btz0 => (some (btz0.1, btz0.2.1, btz0.2.2.1, btz0.2.2.2, true))) = some (r1, r2, r3, r4, r5) := by rw [if_pos rfl] at H; exact H
   clear H
   have H := H1
   clear H1
   replace H := Option.bind_eq_some_iff.mp H
   obtain ⟨⟨tz1, tz3, tz4, tz5⟩, A70, H⟩ := H
   replace H : (some (tz1, tz3, tz4, tz5, true)) = some (r1, r2, r3, r4, r5) := H
   have A7 := mk A70
   clear A70
   simp only [Option.some.injEq, Prod.mk.injEq] at H
   obtain ⟨rfl, rfl, rfl, rfl, rfl⟩ := H
   go_enter Try.func65, Try.ntmps65
   go_wp2_with (first | ((with_reducible refine gate_dst (N := 2) rfl ?_); refine box_event (by rfl) (N := 2) (by rfl) (cs := #[.int .i64 a0_0, .int .i64 a0_1, .int .i64 a0_2, .slice A0_3 l0_3.length c0_3]) (t := 27) (by go_simp; done) ?_; intro gbz1 hg w8 hbox hb; replace HB := mk (below_step HB.out hb); have BKz1 := mk (hbox); clear hb hbox hg) | ((with_reducible refine gate_dst (N := 4) rfl ?_); refine box_event (by rfl) (N := 4) (by rfl) (cs := #[.int .i64 0, .int .i64 0, .int .i64 0, .slice none 0 0]) (t := 27) (by go_simp; done) ?_; intro gbz0 hg w9 hbox hb; replace BKz1 := mk (blk_below BKz1.out hb); have BKz0 := mk (hbox); have GEz0 := mk ((by rw [hg]; exact (below_size HB.out) : w.heap.size ≤ gbz0)); replace HB := mk (below_step HB.out hb); clear hb hbox hg; obtain ⟨hcz11_0, hcz11_1, hcz11_2, -⟩ := c4 BKz1.out; have hcz11_3 : w9.cell? ⟨gbz1, 3, none⟩ = some (.slice A0_3 l0_3.length c0_3) := (blk_cell BKz1.out 3).trans rfl) | ((with_reducible refine gate_callee (f := 89) rfl ?_); refine goesL_ (some 7) rfl rfl Try.func89 (by kernel_rfl) rfl #[.agg #[.int .i64 a0_0, .int .i64 a0_1, .int .i64 a0_2, .slice A0_3 l0_3.length c0_3]] rfl (by (try simp only [bitvec_to_nat]); rfl) ?_; (with_reducible refine (spec_validImage.calls k a0_0 a0_1 a0_2 _ _ l0_3 true _ ?side1 ?side2 A3.out).mono ?_); (case side1 => repeat (exact (Kd.C_below HR0_3.out HB.out))); (case side2 => exact HC0_3.out); rintro e w12 ⟨rfl, hb⟩; refine ⟨_, rfl, ?_⟩; replace BKz1 := mk (blk_below BKz1.out hb); replace BKz0 := mk (blk_below BKz0.out hb); replace HB := mk (below_step HB.out hb); (try clear hb); have hcz13_2 : w12.cell? ⟨gbz1, 2, none⟩ = some (.int .i64 a0_2) := (blk_cell BKz1.out 2).trans rfl) | (go_at_call 117; (with_reducible refine (spec_validLayers.calls k _ _ l1 a0_2 true _ ?side1 ?side2 A5.out).mono ?_); (case side1 => repeat (exact (Kd.C_below HR1.out HB.out))); (case side2 => exact HC1.out); rintro e w14 ⟨rfl, hb⟩; replace BKz1 := mk (blk_below BKz1.out hb); replace BKz0 := mk (blk_below BKz0.out hb); replace HB := mk (below_step HB.out hb); (try clear hb); obtain ⟨hcz15_0, hcz15_1, hcz15_2, -⟩ := c4 BKz1.out; have hcz15_3 : w14.cell? ⟨gbz1, 3, none⟩ = some (.slice A0_3 l0_3.length c0_3) := (blk_cell BKz1.out 3).trans rfl) | ((with_reducible refine gate_callee (f := 118) rfl ?_); refine goesL_ (some 19) rfl rfl Try.func118 (by kernel_rfl) rfl #[.agg #[.int .i64 a0_0, .int .i64 a0_1, .int .i64 a0_2, .slice A0_3 l0_3.length c0_3], .slice A1 l1.length c1] rfl (by (try simp only [bitvec_to_nat]); rfl) ?_; (with_reducible refine (spec_flatten.calls k a0_0 a0_1 a0_2 _ _ l0_3 _ _ l1 tz1 tz3 tz4 tz5 _ ?side1 ?side2 ?side3 ?side4 A7.out).mono ?_); (case side1 => repeat (exact (Kd.C_below HR0_3.out HB.out))); (case side2 => exact HC0_3.out); (case side3 => repeat (exact (Kd.C_below HR1.out HB.out))); (case side4 => exact HC1.out); rintro e w16 ⟨vz0, rfl, ho0, hb⟩; refine ⟨_, rfl, ?_⟩; have n0_ := mk (Kd.R_lower ho0 (below_size HB.out)); have n2_ := mk (blk_below BKz0.out hb); have n3_ := mk (below_step HB.out hb); clear BKz1; clear BKz0; clear HB; have HOz0 := n0_; have BKz0 := n2_; have HB := n3_; (try clear hb); (try clear ho0); obtain ⟨hcz17_0, hcz17_1, hcz17_2, hcz17_3, hfz17_0, hfz17_1, hfz17_2, hfz17_3⟩ := c4 BKz0.out; obtain ⟨Ao18, co18, eo18⟩ := Kd.R_slice HOz0.out; subst eo18))
   refine bodyPost_ret (results_ct rfl _ _ gbz0 27 #[.int .i64 tz1, .int .i64 tz3, .int .i64 tz4, .slice Ao18 tz5.length co18] (0, 0) _ rfl (by refine blk_put (cs := #[.int .i64 tz1, .int .i64 tz3, .int .i64 tz4, .slice none 0 0]) ?_ 3 _ rfl; refine blk_put (cs := #[.int .i64 tz1, .int .i64 tz3, .int .i64 0, .slice none 0 0]) ?_ 2 _ rfl; refine blk_put (cs := #[.int .i64 tz1, .int .i64 0, .int .i64 0, .slice none 0 0]) ?_ 1 _ rfl; refine blk_put (cs := #[.int .i64 0, .int .i64 0, .int .i64 0, .slice none 0 0]) ?_ 0 _ rfl; exact BKz0.out) Try.underlying27 rfl (by kernel_rfl)) rfl ?_
   exact ⟨_, by rfl, by exact Kd.R_mono (Kd.R_far (p := ⟨gbz0, 3, none⟩) (Kd.R_far (p := ⟨gbz0, 2, none⟩) (Kd.R_far (p := ⟨gbz0, 1, none⟩) (Kd.R_far (p := ⟨gbz0, 0, none⟩) (Kd.R_types HOz0.out BKz0.out (by decide)) (fun _ hk => hk.2) (.int .i64 tz1)) (fun _ hk => hk.2) (.int .i64 tz3)) (fun _ hk => hk.2) (.int .i64 tz4)) (fun _ hk => hk.2) (.slice Ao18 tz5.length co18)) (fun _ hk => trivial), by repeat (with_reducible first | exact HB.out | refine below_set ?_ GEz0.out)⟩
  replace c6 := Bool.eq_false_iff.mpr c6
  subst c6
  have H1 : (some (0, 0, 0, ([] : List Int), false)) = some (r1, r2, r3, r4, r5) := by rw [if_neg (show ¬ (false = true) by decide)] at H; exact H
  clear H
  have H := H1
  clear H1
  simp only [Option.some.injEq, Prod.mk.injEq] at H
  obtain ⟨rfl, rfl, rfl, rfl, rfl⟩ := H
  go_enter Try.func65, Try.ntmps65
  go_wp2_with (first | ((with_reducible refine gate_dst (N := 2) rfl ?_); refine box_event (by rfl) (N := 2) (by rfl) (cs := #[.int .i64 a0_0, .int .i64 a0_1, .int .i64 a0_2, .slice A0_3 l0_3.length c0_3]) (t := 27) (by go_simp; done) ?_; intro gbz1 hg w19 hbox hb; replace HB := mk (below_step HB.out hb); have BKz1 := mk (hbox); clear hb hbox hg) | ((with_reducible refine gate_dst (N := 4) rfl ?_); refine box_event (by rfl) (N := 4) (by rfl) (cs := #[.int .i64 0, .int .i64 0, .int .i64 0, .slice none 0 0]) (t := 27) (by go_simp; done) ?_; intro gbz0 hg w20 hbox hb; replace BKz1 := mk (blk_below BKz1.out hb); have BKz0 := mk (hbox); have GEz0 := mk ((by rw [hg]; exact (below_size HB.out) : w.heap.size ≤ gbz0)); replace HB := mk (below_step HB.out hb); clear hb hbox hg; obtain ⟨hcz22_0, hcz22_1, hcz22_2, -⟩ := c4 BKz1.out; have hcz22_3 : w20.cell? ⟨gbz1, 3, none⟩ = some (.slice A0_3 l0_3.length c0_3) := (blk_cell BKz1.out 3).trans rfl) | ((with_reducible refine gate_callee (f := 89) rfl ?_); refine goesL_ (some 7) rfl rfl Try.func89 (by kernel_rfl) rfl #[.agg #[.int .i64 a0_0, .int .i64 a0_1, .int .i64 a0_2, .slice A0_3 l0_3.length c0_3]] rfl (by (try simp only [bitvec_to_nat]); rfl) ?_; (with_reducible refine (spec_validImage.calls k a0_0 a0_1 a0_2 _ _ l0_3 true _ ?side1 ?side2 A3.out).mono ?_); (case side1 => repeat (exact (Kd.C_below HR0_3.out HB.out))); (case side2 => exact HC0_3.out); rintro e w23 ⟨rfl, hb⟩; refine ⟨_, rfl, ?_⟩; replace BKz1 := mk (blk_below BKz1.out hb); replace BKz0 := mk (blk_below BKz0.out hb); replace HB := mk (below_step HB.out hb); (try clear hb); have hcz24_2 : w23.cell? ⟨gbz1, 2, none⟩ = some (.int .i64 a0_2) := (blk_cell BKz1.out 2).trans rfl) | (go_at_call 117; (with_reducible refine (spec_validLayers.calls k _ _ l1 a0_2 false _ ?side1 ?side2 A5.out).mono ?_); (case side1 => repeat (exact (Kd.C_below HR1.out HB.out))); (case side2 => exact HC1.out); rintro e w25 ⟨rfl, hb⟩; have n1_ := mk (blk_below BKz0.out hb); have n2_ := mk (below_step HB.out hb); clear BKz1; clear BKz0; clear HB; have BKz0 := n1_; have HB := n2_; (try clear hb); obtain ⟨hcz26_0, hcz26_1, hcz26_2, hcz26_3, hfz26_0, hfz26_1, hfz26_2, hfz26_3⟩ := c4 BKz0.out))
  refine bodyPost_ret (results_ct rfl _ _ gbz0 27 #[.int .i64 0, .int .i64 0, .int .i64 0, .slice none 0 0] (0, 0) _ rfl (by refine blk_put (cs := #[.int .i64 0, .int .i64 0, .int .i64 0, .slice none 0 0]) ?_ 3 _ rfl; refine blk_put (cs := #[.int .i64 0, .int .i64 0, .int .i64 0, .slice none 0 0]) ?_ 2 _ rfl; refine blk_put (cs := #[.int .i64 0, .int .i64 0, .int .i64 0, .slice none 0 0]) ?_ 1 _ rfl; refine blk_put (cs := #[.int .i64 0, .int .i64 0, .int .i64 0, .slice none 0 0]) ?_ 0 _ rfl; exact BKz0.out) Try.underlying27 rfl (by kernel_rfl)) rfl ?_
  exact ⟨_, by rfl, by exact Kd.R_nil _ _ _ _ _, by repeat (with_reducible first | exact HB.out | refine below_set ?_ GEz0.out)⟩
 replace c4 := Bool.eq_false_iff.mpr c4
 subst c4
 have H1 : (some (0, 0, 0, ([] : List Int), false)) = some (r1, r2, r3, r4, r5) := by rw [if_neg (show ¬ (false = true) by decide)] at H; exact H
 clear H
 have H := H1
 clear H1
 simp only [Option.some.injEq, Prod.mk.injEq] at H
 obtain ⟨rfl, rfl, rfl, rfl, rfl⟩ := H
 go_enter Try.func65, Try.ntmps65
 go_wp2_with (first | ((with_reducible refine gate_dst (N := 2) rfl ?_); refine box_event (by rfl) (N := 2) (by rfl) (cs := #[.int .i64 a0_0, .int .i64 a0_1, .int .i64 a0_2, .slice A0_3 l0_3.length c0_3]) (t := 27) (by go_simp; done) ?_; intro gbz1 hg w27 hbox hb; replace HB := mk (below_step HB.out hb); have BKz1 := mk (hbox); clear hb hbox hg) | ((with_reducible refine gate_dst (N := 4) rfl ?_); refine box_event (by rfl) (N := 4) (by rfl) (cs := #[.int .i64 0, .int .i64 0, .int .i64 0, .slice none 0 0]) (t := 27) (by go_simp; done) ?_; intro gbz0 hg w28 hbox hb; replace BKz1 := mk (blk_below BKz1.out hb); have BKz0 := mk (hbox); have GEz0 := mk ((by rw [hg]; exact (below_size HB.out) : w.heap.size ≤ gbz0)); replace HB := mk (below_step HB.out hb); clear hb hbox hg; obtain ⟨hcz30_0, hcz30_1, hcz30_2, -⟩ := c4 BKz1.out; have hcz30_3 : w28.cell? ⟨gbz1, 3, none⟩ = some (.slice A0_3 l0_3.length c0_3) := (blk_cell BKz1.out 3).trans rfl) | ((with_reducible refine gate_callee (f := 89) rfl ?_); refine goesL_ (some 7) rfl rfl Try.func89 (by kernel_rfl) rfl #[.agg #[.int .i64 a0_0, .int .i64 a0_1, .int .i64 a0_2, .slice A0_3 l0_3.length c0_3]] rfl (by (try simp only [bitvec_to_nat]); rfl) ?_; (with_reducible refine (spec_validImage.calls k a0_0 a0_1 a0_2 _ _ l0_3 false _ ?side1 ?side2 A3.out).mono ?_); (case side1 => repeat (exact (Kd.C_below HR0_3.out HB.out))); (case side2 => exact HC0_3.out); rintro e w31 ⟨rfl, hb⟩; refine ⟨_, rfl, ?_⟩; have n1_ := mk (blk_below BKz0.out hb); have n2_ := mk (below_step HB.out hb); clear BKz1; clear BKz0; clear HB; have BKz0 := n1_; have HB := n2_; (try clear hb); obtain ⟨hcz32_0, hcz32_1, hcz32_2, hcz32_3, hfz32_0, hfz32_1, hfz32_2, hfz32_3⟩ := c4 BKz0.out))
 refine bodyPost_ret (results_ct rfl _ _ gbz0 27 #[.int .i64 0, .int .i64 0, .int .i64 0, .slice none 0 0] (0, 0) _ rfl (by refine blk_put (cs := #[.int .i64 0, .int .i64 0, .int .i64 0, .slice none 0 0]) ?_ 3 _ rfl; refine blk_put (cs := #[.int .i64 0, .int .i64 0, .int .i64 0, .slice none 0 0]) ?_ 2 _ rfl; refine blk_put (cs := #[.int .i64 0, .int .i64 0, .int .i64 0, .slice none 0 0]) ?_ 1 _ rfl; refine blk_put (cs := #[.int .i64 0, .int .i64 0, .int .i64 0, .slice none 0 0]) ?_ 0 _ rfl; exact BKz0.out) Try.underlying27 rfl (by kernel_rfl)) rfl ?_
 exact ⟨_, by rfl, by exact Kd.R_nil _ _ _ _ _, by repeat (with_reducible first | exact HB.out | refine below_set ?_ GEz0.out)⟩


def spec_tileCount.f (a0_0 : Int) (a0_1 : Int) (a0_2 : Int) (l0_3 : List Int) : Option (Int) := some (wrap64 ((wrap64 (Int.tdiv (wrap64 ((wrap64 (a0_0 + 4)) - 1)) 4)) * (wrap64 (Int.tdiv (wrap64 ((wrap64 (a0_1 + 4)) - 1)) 4))))
theorem spec_tileCount.calls (a0_0 : Int) (a0_1 : Int) (a0_2 : Int) (A0_3 : Option Addr) (c0_3 : Nat) (l0_3 : List Int) (r : Int) (w : World) (hr0_3 : Kd.C (Kd.int .i64) w A0_3 l0_3.length l0_3) (hc0_3 : l0_3.length ≤ c0_3) (h : spec_tileCount.f a0_0 a0_1 a0_2 l0_3 = some r) :
  Calls Try.prog 90 #[.agg #[.int .i64 a0_0, .int .i64 a0_1, .int .i64 a0_2, .slice A0_3 l0_3.length c0_3]] w fun e w' => e = .returned (.int .i64 r) ∧ Below w.heap.size w w' := by
 have hu27 := Try.underlying27
 have HR0_3 := Aside0.mk hr0_3
 have HC0_3 := Aside0.mk hc0_3
 clear hr0_3 hc0_3
 have HB := Aside0.mk (Below.refl w.heap.size w)
 have H : (some (wrap64 ((wrap64 (Int.tdiv (wrap64 ((wrap64 (a0_0 + 4)) - 1)) 4)) * (wrap64 (Int.tdiv (wrap64 ((wrap64 (a0_1 + 4)) - 1)) 4))))) = some r := h
 clear h
 obtain rfl := Option.some.inj H
 go_enter Try.func90, Try.ntmps90
 go_wp2_with (first | ((with_reducible refine gate_dst (N := 1) rfl ?_); refine box_event ?hg (N := 1) ?hd (cs := #[.int .i64 a0_0, .int .i64 a0_1, .int .i64 a0_2, .slice A0_3 l0_3.length c0_3]) (t := 27) ?hr ?_; (case hd => rfl); (case hg => rfl); (case hr => first | (go_simp; done) | (go_simp; rfl)); intro aB hg w2 hbox hb; have n0_ := Aside0.mk (below_step (by repeat (first | (with_reducible first | exact HB.out | apply below_alloc | apply pw_below_drewN | apply below_drew1) | exact HB.out)) hb); have n1_ := Aside0.mk (hbox); have n2_ := Aside0.mk ((by rw [hg]; exact (below_size (by repeat (first | (with_reducible first | exact HB.out | apply below_alloc | apply pw_below_drewN | apply below_drew1) | exact HB.out))) : w.heap.size ≤ aB)); have n3_ := Aside0.mk ((by rw [hg]; exact (below_size (by repeat (first | (with_reducible first | exact HB.out | apply below_alloc | apply pw_below_drewN | apply below_drew1) | exact HB.out))) : w.heap.size ≤ aB)); clear HB; have HB := n0_; have aA := n1_; have aD := n2_; have aC := n3_; clear n0_ n1_ n2_ n3_; clear hb hbox hg; have hcz3_0 : w2.cell? ⟨aB, 0, none⟩ = some (.int .i64 a0_0) := (blk_cell aA.out 0).trans rfl; have hcz3_1 : w2.cell? ⟨aB, 1, none⟩ = some (.int .i64 a0_1) := (blk_cell aA.out 1).trans rfl; have hcz3_2 : w2.cell? ⟨aB, 2, none⟩ = some (.int .i64 a0_2) := (blk_cell aA.out 2).trans rfl; have hcz3_3 : w2.cell? ⟨aB, 3, none⟩ = some (.slice A0_3 l0_3.length c0_3) := (blk_cell aA.out 3).trans rfl; have hfz3_0 := blk_frozen aA.out 0; have hfz3_1 := blk_frozen aA.out 1; have hfz3_2 := blk_frozen aA.out 2; have hfz3_3 := blk_frozen aA.out 3))
 go_ret
 exact ⟨by first | rfl | (simp [errW_none, errW_some] <;> rfl) | (simp [*, errW_none, errW_some] <;> rfl), by repeat (first | (with_reducible first | exact HB.out | apply below_alloc | apply pw_below_drewN | apply below_drew1 | refine below_set ?_ aC.out) | exact HB.out)⟩


def spec_tileBox.f (a0_0 : Int) (a0_1 : Int) (a0_2 : Int) (l0_3 : List Int) (a1 : Int) : Option (Int × Int × Int × Int) := if (wrap64 (Int.tdiv (wrap64 ((wrap64 (a0_0 + 4)) - 1)) 4)) = 0 then none else (some (wrap64 ((Int.tmod a1 (wrap64 (Int.tdiv (wrap64 ((wrap64 (a0_0 + 4)) - 1)) 4))) * 4), wrap64 ((wrap64 (Int.tdiv a1 (wrap64 (Int.tdiv (wrap64 ((wrap64 (a0_0 + 4)) - 1)) 4)))) * 4), mn 4 (wrap64 (a0_0 - (wrap64 ((Int.tmod a1 (wrap64 (Int.tdiv (wrap64 ((wrap64 (a0_0 + 4)) - 1)) 4))) * 4)))), mn 4 (wrap64 (a0_1 - (wrap64 ((wrap64 (Int.tdiv a1 (wrap64 (Int.tdiv (wrap64 ((wrap64 (a0_0 + 4)) - 1)) 4)))) * 4))))))
theorem spec_tileBox.calls (a0_0 : Int) (a0_1 : Int) (a0_2 : Int) (A0_3 : Option Addr) (c0_3 : Nat) (l0_3 : List Int) (a1 : Int) (r1 : Int) (r2 : Int) (r3 : Int) (r4 : Int) (w : World) (hr0_3 : Kd.C (Kd.int .i64) w A0_3 l0_3.length l0_3) (hc0_3 : l0_3.length ≤ c0_3) (h : spec_tileBox.f a0_0 a0_1 a0_2 l0_3 a1 = some (r1, r2, r3, r4)) :
  Calls Try.prog 91 #[.agg #[.int .i64 a0_0, .int .i64 a0_1, .int .i64 a0_2, .slice A0_3 l0_3.length c0_3], .int .i64 a1] w fun e w' => e = .returned (.agg #[.int .i64 r1, .int .i64 r2, .int .i64 r3, .int .i64 r4]) ∧ Below w.heap.size w w' := by
 have hu27 := Try.underlying27
 have hu47 := Try.underlying47
 have HR0_3 := Aside0.mk hr0_3
 have HC0_3 := Aside0.mk hc0_3
 clear hr0_3 hc0_3
 have HB := Aside0.mk (Below.refl w.heap.size w)
 have H : (if (wrap64 (Int.tdiv (wrap64 ((wrap64 (a0_0 + 4)) - 1)) 4)) = 0 then none else (some (wrap64 ((Int.tmod a1 (wrap64 (Int.tdiv (wrap64 ((wrap64 (a0_0 + 4)) - 1)) 4))) * 4), wrap64 ((wrap64 (Int.tdiv a1 (wrap64 (Int.tdiv (wrap64 ((wrap64 (a0_0 + 4)) - 1)) 4)))) * 4), mn 4 (wrap64 (a0_0 - (wrap64 ((Int.tmod a1 (wrap64 (Int.tdiv (wrap64 ((wrap64 (a0_0 + 4)) - 1)) 4))) * 4)))), mn 4 (wrap64 (a0_1 - (wrap64 ((wrap64 (Int.tdiv a1 (wrap64 (Int.tdiv (wrap64 ((wrap64 (a0_0 + 4)) - 1)) 4)))) * 4))))))) = some (r1, r2, r3, r4) := h
 clear h
 by_cases c3 : (wrap64 (Int.tdiv (wrap64 ((wrap64 (a0_0 + 4)) - 1)) 4)) = 0
 ·rw [if_pos c3] at H
  exact absurd H (by simp)
 rw [if_neg c3] at H
 have c3b0 : ((wrap64 (Int.tdiv (wrap64 ((wrap64 (a0_0 + 4)) - 1)) 4)) == 0) = false := beq_eq_false_iff_ne.mpr c3
 have c3b1 : ((wrap64 (Int.tdiv (wrap64 ((wrap64 (a0_0 + 4)) - 1)) 4)) != 0) = true := bne_iff_ne.mpr c3
 obtain ⟨ji4, hji4⟩ : ∃ j_ : Int, (mn 4 (wrap64 (a0_0 - (wrap64 ((Int.tmod a1 (wrap64 (Int.tdiv (wrap64 ((wrap64 (a0_0 + 4)) - 1)) 4))) * 4))))) = j_ := ⟨_, rfl⟩
 replace H : (some (wrap64 ((Int.tmod a1 (wrap64 (Int.tdiv (wrap64 ((wrap64 (a0_0 + 4)) - 1)) 4))) * 4), wrap64 ((wrap64 (Int.tdiv a1 (wrap64 (Int.tdiv (wrap64 ((wrap64 (a0_0 + 4)) - 1)) 4)))) * 4), ji4, mn 4 (wrap64 (a0_1 - (wrap64 ((wrap64 (Int.tdiv a1 (wrap64 (Int.tdiv (wrap64 ((wrap64 (a0_0 + 4)) - 1)) 4)))) * 4)))))) = some (r1, r2, r3, r4) := by (rw [hji4] at H; exact H)
 (try (have hji4h : ji4 ≤ 4 := by (rw [← hji4]; unfold mn; (repeat' split) <;> omega)))
 (try (have hji4g : ji4 ≤ 64 := by omega))
 have hji4_ : (if (wrap64 (a0_0 - (wrap64 ((Int.tmod a1 (wrap64 (Int.tdiv (wrap64 ((wrap64 (a0_0 + 4)) - 1)) 4))) * 4)))) < 4 then (wrap64 (a0_0 - (wrap64 ((Int.tmod a1 (wrap64 (Int.tdiv (wrap64 ((wrap64 (a0_0 + 4)) - 1)) 4))) * 4)))) else 4) = ji4 := hji4
 obtain ⟨ji5, hji5⟩ : ∃ j_ : Int, (mn 4 (wrap64 (a0_1 - (wrap64 ((wrap64 (Int.tdiv a1 (wrap64 (Int.tdiv (wrap64 ((wrap64 (a0_0 + 4)) - 1)) 4)))) * 4))))) = j_ := ⟨_, rfl⟩
 replace H : (some (wrap64 ((Int.tmod a1 (wrap64 (Int.tdiv (wrap64 ((wrap64 (a0_0 + 4)) - 1)) 4))) * 4), wrap64 ((wrap64 (Int.tdiv a1 (wrap64 (Int.tdiv (wrap64 ((wrap64 (a0_0 + 4)) - 1)) 4)))) * 4), ji4, ji5)) = some (r1, r2, r3, r4) := by (rw [hji5] at H; exact H)
 (try (have hji5h : ji5 ≤ 4 := by (rw [← hji5]; unfold mn; (repeat' split) <;> omega)))
 (try (have hji5g : ji5 ≤ 64 := by omega))
 have hji5_ : (if (wrap64 (a0_1 - (wrap64 ((wrap64 (Int.tdiv a1 (wrap64 (Int.tdiv (wrap64 ((wrap64 (a0_0 + 4)) - 1)) 4)))) * 4)))) < 4 then (wrap64 (a0_1 - (wrap64 ((wrap64 (Int.tdiv a1 (wrap64 (Int.tdiv (wrap64 ((wrap64 (a0_0 + 4)) - 1)) 4)))) * 4)))) else 4) = ji5 := hji5
 simp only [Option.some.injEq, Prod.mk.injEq] at H
 obtain ⟨rfl, rfl, rfl, rfl⟩ := H
 go_enter Try.func91, Try.ntmps91
 go_wp2_with (first | ((with_reducible refine gate_dst (N := 2) rfl ?_); refine box_event (by rfl) (N := 2) (by rfl) (cs := #[.int .i64 a0_0, .int .i64 a0_1, .int .i64 a0_2, .slice A0_3 l0_3.length c0_3]) (t := 27) (by go_simp; done) ?_; intro gbz1 hg w6 hbox hb; replace HB := Aside0.mk (below_step HB.out hb); have BKz1 := Aside0.mk (hbox); clear hb hbox hg) | ((with_reducible refine gate_dst (N := 4) rfl ?_); refine box_event (by rfl) (N := 4) (by rfl) (cs := #[.int .i64 0, .int .i64 0, .int .i64 0, .int .i64 0]) (t := 47) (by go_simp; done) ?_; intro gbz0 hg w7 hbox hb; replace BKz1 := Aside0.mk (blk_below BKz1.out hb); have BKz0 := Aside0.mk (hbox); have GEz0 := Aside0.mk ((by rw [hg]; exact (below_size HB.out) : w.heap.size ≤ gbz0)); replace HB := Aside0.mk (below_step HB.out hb); clear hb hbox hg; obtain ⟨hcz9_0, hcz9_1, -⟩ := c4 BKz1.out; obtain ⟨hcz10_0, hcz10_1, hcz10_2, hcz10_3, hfz10_0, hfz10_1, hfz10_2, hfz10_3⟩ := c4 BKz0.out))
 refine bodyPost_ret (results_cell_row rfl _ _ gbz0 47 #[.int .i64 (wrap64 ((Int.tmod a1 (wrap64 (Int.tdiv (wrap64 ((wrap64 (a0_0 + 4)) - 1)) 4))) * 4)), .int .i64 (wrap64 ((wrap64 (Int.tdiv a1 (wrap64 (Int.tdiv (wrap64 ((wrap64 (a0_0 + 4)) - 1)) 4)))) * 4)), .int .i64 ji4, .int .i64 ji5] (0, 0) _ rfl (by refine blk_put (cs := #[.int .i64 (wrap64 ((Int.tmod a1 (wrap64 (Int.tdiv (wrap64 ((wrap64 (a0_0 + 4)) - 1)) 4))) * 4)), .int .i64 (wrap64 ((wrap64 (Int.tdiv a1 (wrap64 (Int.tdiv (wrap64 ((wrap64 (a0_0 + 4)) - 1)) 4)))) * 4)), .int .i64 ji4, .int .i64 0]) ?_ 3 _ rfl; refine blk_put (cs := #[.int .i64 (wrap64 ((Int.tmod a1 (wrap64 (Int.tdiv (wrap64 ((wrap64 (a0_0 + 4)) - 1)) 4))) * 4)), .int .i64 (wrap64 ((wrap64 (Int.tdiv a1 (wrap64 (Int.tdiv (wrap64 ((wrap64 (a0_0 + 4)) - 1)) 4)))) * 4)), .int .i64 0, .int .i64 0]) ?_ 2 _ rfl; refine blk_put (cs := #[.int .i64 (wrap64 ((Int.tmod a1 (wrap64 (Int.tdiv (wrap64 ((wrap64 (a0_0 + 4)) - 1)) 4))) * 4)), .int .i64 0, .int .i64 0, .int .i64 0]) ?_ 1 _ rfl; refine blk_put (cs := #[.int .i64 0, .int .i64 0, .int .i64 0, .int .i64 0]) ?_ 0 _ rfl; exact BKz0.out) Try.underlying47 rfl (by kernel_rfl)) rfl ?_
 exact ⟨by rfl, by repeat (with_reducible first | exact HB.out | refine below_set ?_ GEz0.out)⟩


def spec_setPixel.l0 : Nat → Int → Int → List Int → Int → Int → Int → Int → List Int → Option (List Int)
 | 0, _, _, _, _, _, _, _, _ => none
 | k + 1, x1, x2, x3, x8, xz2, xz4, xz1, xz3 => if x8 < xz1 then (if 0 ≤ x8 then (if x8 < (x3.length : Int) then (if 0 ≤ (wrap64 ((wrap64 ((wrap64 ((wrap64 (x2 * xz2)) + x1)) * xz1)) + x8)) then (if (wrap64 ((wrap64 ((wrap64 ((wrap64 (x2 * xz2)) + x1)) * xz1)) + x8)) < (xz3.length : Int) then (spec_setPixel.l0 k x1 x2 x3 (wrap64 (x8 + 1)) xz2 xz4 xz1 (xz3.set ((wrap64 ((wrap64 ((wrap64 ((wrap64 (x2 * xz2)) + x1)) * xz1)) + x8)) : Int).toNat (rd x3 x8))) else none) else none) else none) else none) else (some xz3)
def spec_setPixel.f (k : Nat) (a0_0 : Int) (a0_1 : Int) (a0_2 : Int) (l0_3 : List Int) (a1 : Int) (a2 : Int) (l3 : List Int) : Option (List Int) := spec_setPixel.l0 k a1 a2 l3 0 a0_0 a0_1 a0_2 l0_3
def spec_setPixel.T4 : Bool × List (List Nat × List Nat) := (true, [([], []), ([0], [0]), ([], []), ([], []), ([3], [3]), ([2, 4], [2, 4]), ([], []), ([5, 6], [5, 6]), ([], []), ([8], [8]), ([7, 9], [7, 9]), ([], []), ([10, 11], [10, 11]), ([], []), ([], []), ([13, 14], [13, 14]), ([15], [15]), ([1, 12, 0, 1, 2, 3, 4, 5, 6, 7, 8, 9, 10, 11, 12, 13, 14, 15, 16], [1, 12]), ([17, 16, 0, 1, 2, 3, 4, 5, 6, 7, 8, 9, 10, 11, 12, 13, 14, 15, 16], [16, 17])])
def spec_setPixel.B4 : List Nat := [0, 1, 0, 0, 8, 28, 0, 124, 0, 256, 1020, 0, 4092, 0, 0, 24576, 57344, 131071, 262143]
theorem spec_setPixel.tab4 : rtab .any (opsOf Try.f148 4) = spec_setPixel.T4 := by kernel_rfl
theorem spec_setPixel.bits4 : waitsOk spec_setPixel.T4.2 spec_setPixel.B4 = true := by kernel_rfl
theorem spec_setPixel.calls (k : Nat) (a0_0 : Int) (a0_1 : Int) (a0_2 : Int) (P0_3_ : Nat → Prop) (u9000_ : Value) (l0_3 : List Int) (a1 : Int) (a2 : Int) (A3 : Option Addr) (c3 : Nat) (l3 : List Int) (r : List Int) (w0 w : World) (hB : Below w0.heap.size w0 w) (ho0_3 : Kd.R (Kd.int .i64) 3 w w0.heap.size P0_3_ u9000_ l0_3) (hr3 : ∀ W_, Kept w W_ (fun k_ => P0_3_ k_) → Kd.C (Kd.int .i64) W_ A3 l3.length l3) (hc3 : l3.length ≤ c3) (h : spec_setPixel.f k a0_0 a0_1 a0_2 l0_3 a1 a2 l3 = some r) :
  Calls Try.prog 148 #[.agg #[.int .i64 a0_0, .int .i64 a0_1, .int .i64 a0_2, u9000_], .int .i64 a1, .int .i64 a2, .slice A3 l3.length c3] w fun e w' => e = .returned (.tuple #[]) ∧ Kd.R (Kd.int .i64) 3 w' w0.heap.size (fun k_ => (P0_3_ k_ ∨ w.heap.size ≤ k_)) u9000_ r ∧ Below w0.heap.size w0 w' ∧ Kept w w' (fun k_ => P0_3_ k_) := by
 have hu27 := Try.underlying27
 have HO0_3 := mk (show Kd.R (Kd.int .i64) 3 w w0.heap.size (fun k_ => (P0_3_ k_ ∨ w.heap.size ≤ k_)) u9000_ l0_3 from Kd.R_mono ho0_3 (fun k_ hk => (.inl hk)))
 have HR3 := mk hr3
 have HC3 := mk hc3
 clear hr3 hc3
 have HK := mk (Kept.refl w (fun k_ => P0_3_ k_))
 have HW0 := mk hB.size
 have HB := mk hB
 clear hB
 have H : (spec_setPixel.l0 k a1 a2 l3 0 a0_0 a0_1 a0_2 l0_3) = some r := h
 clear h
 have H' := mk H
 clear H
 obtain ⟨Ao5, co5, eo5⟩ := Kd.R_slice HO0_3.out
 subst eo5
 go_enter Try.func148, Try.ntmps148
 go_wp2_with (first | ((with_reducible refine gate_dst (N := 4) rfl ?_); refine box_event (by rfl) (N := 4) (by rfl) (cs := #[.int .i64 a0_0, .int .i64 a0_1, .int .i64 a0_2, .slice Ao5 l0_3.length co5]) (t := 27) (by go_simp; done) ?_; intro gbz0 hg w6 hbox hb; replace HO0_3 := mk (Kd.R_below HO0_3.out hb); replace HK := mk (Kept.below (S := (fun k_ => P0_3_ k_)) HK.out hb); replace HB := mk (below_step HB.out hb); have BKz0 := mk (hbox); clear hb hbox hg))
 go_loopg [8] k (fun kq v8 w' => ∃ (x8_1 : Int) (xz0 : List Int), v8 = .int .i64 x8_1 ∧ Aside0 (spec_setPixel.l0 kq a1 a2 l3 x8_1 a0_0 a0_1 a0_2 xz0 = some r) ∧ Aside0 (kq ≤ k) ∧ Aside0 (Kd.R (Kd.int .i64) 3 w' w0.heap.size (fun k_ => (P0_3_ k_ ∨ w.heap.size ≤ k_)) (.slice Ao5 l0_3.length co5) xz0) ∧ Aside0 (w'.heap[gbz0]? = some (.cells #[.int .i64 a0_0, .int .i64 a0_1, .int .i64 a0_2, (.slice Ao5 l0_3.length co5)] 27 (0, 0))) ∧ Aside0 (Kept w w' (fun k_ => P0_3_ k_)) ∧ Aside0 (Below w0.heap.size w0 w'))
 case atStart => exact ⟨(0), (l0_3), (by rfl), H', ⟨Nat.le_refl _⟩, HO0_3, BKz0, HK, HB⟩
 case round =>
  clear H'
  obtain ⟨x8_1, xz0, rfl, HA, HK1, HOz0, BKz0, HK, HB⟩ := hrel
  have aA := (Kd.R_reads' HOz0.out).1
  rw [aA] at HOz0
  (try simp only [aA])
  (try simp only [aA] at BKz0)
  cases gk with
  | zero => exact absurd HA.out (by simp [spec_setPixel.l0])
  | succ k1 =>
   have H := HA.out
   clear HA
   simp only [spec_setPixel.l0] at H
   by_cases c7 : x8_1 < a0_2
   ·rw [if_pos c7] at H
    have c7b0 : decide (x8_1 < a0_2) = true := decide_eq_true c7
    clear c7
    by_cases c8 : 0 ≤ x8_1
    ·rw [if_pos c8] at H
     have c8b0 : decide (0 ≤ x8_1) = true := decide_eq_true c8
     clear c8
     by_cases c9 : x8_1 < (l3.length : Int)
     ·rw [if_pos c9] at H
      have c9b0 : decide (x8_1 < (l3.length : Int)) = true := decide_eq_true c9
      clear c9
      obtain ⟨ji10, hji10⟩ : ∃ j_ : Int, (wrap64 ((wrap64 ((wrap64 ((wrap64 (a2 * a0_0)) + a1)) * a0_2)) + x8_1)) = j_ := ⟨_, rfl⟩
      replace H : (if 0 ≤ ji10 then (if ji10 < (xz0.length : Int) then (spec_setPixel.l0 k1 a1 a2 l3 (wrap64 (x8_1 + 1)) a0_0 a0_1 a0_2 (xz0.set (ji10 : Int).toNat (rd l3 x8_1))) else none) else none) = some r := by (rw [hji10] at H; exact H)
      have hji10w : (IntKind.i64.wrap ((wrap64 ((wrap64 ((wrap64 (a2 * a0_0)) + a1)) * a0_2)) + x8_1)) = ji10 := (i64_w _).trans hji10
      by_cases c11 : 0 ≤ (ji10)
      ·rw [if_pos c11] at H
       have c11b0 : decide (0 ≤ ji10) = true := decide_eq_true c11
       clear c11
       by_cases c12 : ji10 < (xz0.length : Int)
       ·rw [if_pos c12] at H
        have c12b0 : decide (ji10 < (xz0.length : Int)) = true := decide_eq_true c12
        clear c12
        obtain ⟨yz0, hyz0⟩ : ∃ y_ : List Int, y_ = (xz0.set (ji10 : Int).toNat (rd l3 x8_1)) := ⟨_, rfl⟩
        replace H : (spec_setPixel.l0 k1 a1 a2 l3 (wrap64 (x8_1 + 1)) a0_0 a0_1 a0_2 yz0) = some r := by (rw [hyz0]; with_reducible exact H)
        have Nyz0 := mk hyz0
        clear hyz0
        have H' := mk H
        clear H
        obtain ⟨-, -, hcz14_2, hcz14_3, -⟩ := c4 BKz0.out
        try go_wp2
        replace HOz0 := mk (Kd.R_drew HOz0.out)
        replace BKz0 := mk (blk_drew BKz0.out)
        replace HK := mk (Kept.drew HK.out)
        replace HB := mk (below_drew1 HB.out)
        have aB : 0 ≤ (x8_1 : Int) := of_decide_eq_true (by (with_reducible assumption))
        have aC : x8_1 < (l3.length : Int) := of_decide_eq_true (by (with_reducible assumption))
        obtain ⟨aE, aF, aD⟩ := Kd.at_int (Kd.C_kept_now HR3.out HK.out) x8_1 aB aC
        cases aF
        replace aB := eq_true aB
        replace aC := eq_true aC
        have p13 : 0 ≤ (ji10 : Int) := of_decide_eq_true (by (with_reducible assumption))
        have q13 : (ji10 : Int) < ((xz0.length : Int) : Int) := of_decide_eq_true (by (with_reducible assumption))
        obtain ⟨go13, co13, eo13, gb13, gl13, cl13, HG13⟩ := Kd.R_form HOz0.out (by omega)
        (cases eo13)
        have GB13 := mk gb13
        have GG13 := mk HG13
        clear gb13 gl13 HG13
        have HMgo13 := mk (show (P0_3_ go13 ∨ w.heap.size ≤ go13) from (HOz0.out.1 _ rfl))
        obtain ⟨hx13_0, hf13_0⟩ := Kd.R_celln 0 HOz0.out (ji10 : Int) p13 q13
        replace p13 := eq_true p13
        replace q13 := eq_true q13
        have HP16 := Kd.R_putn HOz0.out (ji10 : Int) (rd l3 x8_1)
        rw [← Nyz0.out] at HP16
        have HQ16 := mk HP16
        clear HP16
        refine start_ (n := 19) (S := fun w' => w'.cell? ⟨gbz0, 0, none⟩ = some (.int .i64 a0_0) ∧ w'.cell? ⟨gbz0, 1, none⟩ = some (.int .i64 a0_1) ∧ w'.cell? ⟨gbz0, 2, none⟩ = some (.int .i64 a0_2) ∧ w'.cell? ⟨gbz0, 3, none⟩ = some (.slice (some ⟨go13, 0, none⟩) xz0.length co5) ∧ w'.cell? (aE.add (x8_1).toNat) = some (.int .i64 (rd l3 x8_1))) (ds := [18]) #[false, false, false, false, false, false, false, false, false, false, false, false, false, false, false, false, false, false, false] (by kernel_rfl) rfl rfl ⟨blk_cell BKz0.out 0, blk_cell BKz0.out 1, blk_cell BKz0.out 2, blk_cell BKz0.out 3, (Kd.foot_int (HR3.out _ HK.out) x8_1 (of_eq_true aB) (of_eq_true aC))⟩ (fun hHeld => ?_); refine with_tabW spec_setPixel.tab4 spec_setPixel.bits4 (fun HT_ HW_ => ?_)
        generalize wr.drew = w15 at HOz0 BKz0 HK HB GG13 HQ16 hf13_0 hx13_0 aD hHeld ⊢
        refine pu 0 15 ?_ ?_ rfl rfl (any_of HT_.out (by kernel_rfl)) (Or.inl ⟨by rfl, ?_⟩) ?_ ?_
        rotate_left 2
        ·intro w'
         go_simp
         with_reducible rfl
        ·simp only [seval]
         rfl
        refine pu 2 17 ?_ ?_ rfl rfl (any_of HT_.out (by kernel_rfl)) (Or.inl ⟨by rfl, ?_⟩) ?_ ?_
        rotate_left 2
        ·intro w'
         go_simp
         with_reducible rfl
        ·simp only [seval]
         rfl
        refine pu 3 18 ?_ ?_ rfl rfl (any_of HT_.out (by kernel_rfl)) (Or.inl ⟨by rfl, ?_⟩) ?_ ?_
        rotate_left 2
        ·intro w'
         go_simp
         with_reducible rfl
        ·simp only [seval]
         rfl
        refine pu 6 21 ?_ ?_ rfl rfl (any_of HT_.out (by kernel_rfl)) (Or.inl ⟨by rfl, ?_⟩) ?_ ?_
        rotate_left 2
        ·intro w'
         go_simp
         with_reducible rfl
        ·simp only [seval]
         rfl
        refine pu 8 23 ?_ ?_ rfl rfl (any_of HT_.out (by kernel_rfl)) (Or.inl ⟨by rfl, ?_⟩) ?_ ?_
        rotate_left 2
        ·intro w'
         go_simp
         with_reducible rfl
        ·simp only [seval]
         rfl
        refine pu 11 26 ?_ ?_ rfl rfl (any_of HT_.out (by kernel_rfl)) (Or.inl ⟨by rfl, ?_⟩) ?_ ?_
        rotate_left 2
        ·intro w'
         go_simp
         with_reducible rfl
        ·simp only [seval]
         rfl
        refine pu 13 28 ?_ ?_ rfl rfl (any_of HT_.out (by kernel_rfl)) (Or.inl ⟨by rfl, ?_⟩) ?_ ?_
        rotate_left 2
        ·intro w'
         go_simp
         with_reducible rfl
        ·simp only [seval]
         rfl
        refine pu 14 29 ?_ ?_ rfl rfl (any_of HT_.out (by kernel_rfl)) (Or.inl ⟨by rfl, ?_⟩) ?_ ?_
        rotate_left 2
        ·intro w'
         go_simp
         with_reducible rfl
        ·simp only [seval]
         rfl
        refine pu 15 30 ?_ ?_ rfl rfl (any_of HT_.out (by kernel_rfl)) (Or.inl ⟨by rfl, ?_⟩) ?_ ?_
        rotate_left 2
        ·intro w'
         go_simp
         with_reducible rfl
        ·simp only [seval]
         rfl
        refine tk 1 16 ?_ ?_ rfl rfl (take_ofW HT_.out HW_.out (by kernel_rfl)) (Or.inl ⟨by rfl, ?_⟩) hHeld ?_ ?_
        rotate_left 2
        ·rintro w' ⟨s0, s1, s2, s3, s4⟩
         go_simp
         with_reducible rfl
        ·simp only [seval]
         rfl
        refine tk 4 19 ?_ ?_ rfl rfl (take_ofW HT_.out HW_.out (by kernel_rfl)) (Or.inl ⟨by rfl, ?_⟩) hHeld ?_ ?_
        rotate_left 2
        ·rintro w' ⟨s0, s1, s2, s3, s4⟩
         go_simp
         with_reducible rfl
        ·simp only [seval]
         rfl
        refine pu 5 20 ?_ ?_ rfl rfl (any_of HT_.out (by kernel_rfl)) (Or.inl ⟨by rfl, ?_⟩) ?_ ?_
        rotate_left 2
        ·intro w'
         go_simp
         with_reducible rfl
        ·simp only [seval]
         rfl
        refine pu 7 22 ?_ ?_ rfl rfl (any_of HT_.out (by kernel_rfl)) (Or.inl ⟨by rfl, ?_⟩) ?_ ?_
        rotate_left 2
        ·intro w'
         go_simp
         with_reducible rfl
        ·simp only [seval]
         rfl
        refine tk 9 24 ?_ ?_ rfl rfl (take_ofW HT_.out HW_.out (by kernel_rfl)) (Or.inl ⟨by rfl, ?_⟩) hHeld ?_ ?_
        rotate_left 2
        ·rintro w' ⟨s0, s1, s2, s3, s4⟩
         go_simp
         with_reducible rfl
        ·simp only [seval]
         rfl
        refine pu 10 25 ?_ ?_ rfl rfl (any_of HT_.out (by kernel_rfl)) (Or.inl ⟨by rfl, ?_⟩) ?_ ?_
        rotate_left 2
        ·intro w'
         go_simp
         with_reducible rfl
        ·simp only [seval]
         rfl
        refine pu 12 27 ?_ ?_ rfl rfl (any_of HT_.out (by kernel_rfl)) (Or.inl ⟨by rfl, ?_⟩) ?_ ?_
        rotate_left 2
        ·intro w'
         go_simp
         with_reducible rfl
        ·simp only [seval]
         rfl
        refine tk 16 31 ?_ ?_ rfl rfl (take_ofW HT_.out HW_.out (by kernel_rfl)) (Or.inl ⟨by rfl, ?_⟩) hHeld ?_ ?_
        rotate_left 2
        ·rintro w' ⟨s0, s1, s2, s3, s4⟩
         go_simp
         with_reducible rfl
        ·simp only [seval]
         rfl
        refine pu 17 32 ?_ ?_ rfl rfl (any_of HT_.out (by kernel_rfl)) (Or.inl ⟨by rfl, ?_⟩) ?_ ?_
        rotate_left 2
        ·intro w'
         go_simp
         with_reducible rfl
        ·simp only [seval]
         rfl
        refine last_ (i := 18) (N := none) #[true, true, true, true, true, true, true, true, true, true, true, true, true, true, true, true, true, true, true] rfl rfl (one_of HT_.out (by kernel_rfl)) (by decide) (fun K hK => ?_)
        refine skip_ (w1 := ?_) (by rfl) rfl ?_ ?_
        rotate_left
        ·go_simp
         rfl
        refine hK.out _ _ ?_
        clear hK K
        refine done_ (done_of HT_.out (by kernel_rfl)) ?_
        try go_wp2
        (try simp only [← aA])
        go_roundg k1
        case measure => have := HK1.out; omega
        case rel => exact ⟨(wrap64 (x8_1 + 1)), (yz0), (by rfl), H', ⟨by have := HK1.out; omega⟩, ⟨by (try simp only [aA]); exact HQ16.out⟩, ⟨by (try simp only [aA]); refine blk_far ?_ (by have h_ := Kd.R_ne HOz0.out BKz0.out (by decide); intro e_; exact h_ (by rw [e_]; rfl)) _; exact BKz0.out⟩, ⟨by repeat (with_reducible first | exact HK.out | refine Kept.setCell ?_ HMgo13.out _)⟩, ⟨by repeat (with_reducible first | exact HB.out | refine below_set ?_ GB13.out)⟩⟩
       rw [if_neg c12] at H
       exact absurd H (by simp)
      rw [if_neg c11] at H
      exact absurd H (by simp)
     rw [if_neg c9] at H
     exact absurd H (by simp)
    rw [if_neg c8] at H
    exact absurd H (by simp)
   rw [if_neg c7] at H
   have c7b0 : decide (x8_1 < a0_2) = false := decide_eq_false c7
   clear c7
   obtain rfl := Option.some.inj H
   have hcz17_2 : wr.cell? ⟨gbz0, 2, none⟩ = some (.int .i64 a0_2) := (blk_cell BKz0.out 2).trans rfl
   go_wp2
   go_end0
   exact ⟨by rfl, HOz0.out, by exact HB.out, by exact HK.out⟩


def spec_pixelAt.f (a0_0 : Int) (a0_1 : Int) (a0_2 : Int) (l0_3 : List Int) (a1 : Int) (a2 : Int) : Option (List Int) := if 0 ≤ (wrap64 ((wrap64 ((wrap64 (a2 * a0_0)) + a1)) * a0_2)) then (if (wrap64 ((wrap64 ((wrap64 (a2 * a0_0)) + a1)) * a0_2)) ≤ (wrap64 ((wrap64 ((wrap64 ((wrap64 (a2 * a0_0)) + a1)) * a0_2)) + a0_2)) then (if (wrap64 ((wrap64 ((wrap64 ((wrap64 (a2 * a0_0)) + a1)) * a0_2)) + a0_2)) ≤ (l0_3.length : Int) then ((spec_copyInts.f ((l0_3.take ((wrap64 ((wrap64 ((wrap64 ((wrap64 (a2 * a0_0)) + a1)) * a0_2)) + a0_2)) : Int).toNat).drop ((wrap64 ((wrap64 ((wrap64 (a2 * a0_0)) + a1)) * a0_2)) : Int).toNat)).bind fun tz0 => (some tz0)) else none) else none) else (none)
theorem spec_pixelAt.calls (a0_0 : Int) (a0_1 : Int) (a0_2 : Int) (A0_3 : Option Addr) (c0_3 : Nat) (l0_3 : List Int) (a1 : Int) (a2 : Int) (r : List Int) (w : World) (hr0_3 : Kd.C (Kd.int .i64) w A0_3 l0_3.length l0_3) (hc0_3 : l0_3.length ≤ c0_3) (h : spec_pixelAt.f a0_0 a0_1 a0_2 l0_3 a1 a2 = some r) :
  Calls Try.prog 149 #[.agg #[.int .i64 a0_0, .int .i64 a0_1, .int .i64 a0_2, .slice A0_3 l0_3.length c0_3], .int .i64 a1, .int .i64 a2] w fun e w' => ∃ v0_ : Value, e = .returned v0_ ∧ Kd.R (Kd.int .i64) 3 w' w.heap.size (fun _ => True) v0_ r ∧ Below w.heap.size w w' := by
 have hu27 := Try.underlying27
 have HR0_3 := Aside0.mk hr0_3
 have HC0_3 := Aside0.mk hc0_3
 clear hr0_3 hc0_3
 have HB := Aside0.mk (Below.refl w.heap.size w)
 have H : (if 0 ≤ (wrap64 ((wrap64 ((wrap64 (a2 * a0_0)) + a1)) * a0_2)) then (if (wrap64 ((wrap64 ((wrap64 (a2 * a0_0)) + a1)) * a0_2)) ≤ (wrap64 ((wrap64 ((wrap64 ((wrap64 (a2 * a0_0)) + a1)) * a0_2)) + a0_2)) then (if (wrap64 ((wrap64 ((wrap64 ((wrap64 (a2 * a0_0)) + a1)) * a0_2)) + a0_2)) ≤ (l0_3.length : Int) then ((spec_copyInts.f ((l0_3.take ((wrap64 ((wrap64 ((wrap64 ((wrap64 (a2 * a0_0)) + a1)) * a0_2)) + a0_2)) : Int).toNat).drop ((wrap64 ((wrap64 ((wrap64 (a2 * a0_0)) + a1)) * a0_2)) : Int).toNat)).bind fun tz0 => (some tz0)) else none) else none) else none) = some r := h
 clear h
 obtain ⟨ji4, hji4⟩ : ∃ j_ : Int, (wrap64 ((wrap64 ((wrap64 (a2 * a0_0)) + a1)) * a0_2)) = j_ := ⟨_, rfl⟩
 replace H : (if 0 ≤ ji4 then (if ji4 ≤ (wrap64 (ji4 + a0_2)) then (if (wrap64 (ji4 + a0_2)) ≤ (l0_3.length : Int) then ((spec_copyInts.f ((l0_3.take ((wrap64 (ji4 + a0_2)) : Int).toNat).drop (ji4 : Int).toNat)).bind fun tz0 => (some tz0)) else none) else none) else none) = some r := by (rw [hji4] at H; exact H)
 have hji4w : (IntKind.i64.wrap ((wrap64 ((wrap64 (a2 * a0_0)) + a1)) * a0_2)) = ji4 := (i64_w _).trans hji4
 by_cases c5 : 0 ≤ (ji4)
 ·rw [if_pos c5] at H
  have c5b0 := eq_true c5
  have c5b1 : decide (0 ≤ ji4) = true := decide_eq_true c5
  clear c5
  by_cases c6 : ji4 ≤ (wrap64 (ji4 + a0_2))
  ·rw [if_pos c6] at H
   have c6b0 := eq_true c6
   have c6b1 : decide (ji4 ≤ (wrap64 (ji4 + a0_2))) = true := decide_eq_true c6
   by_cases c7 : (wrap64 (ji4 + a0_2)) ≤ (l0_3.length : Int)
   ·rw [if_pos c7] at H
    have c7b0 := eq_true c7
    have c7b1 : decide ((wrap64 (ji4 + a0_2)) ≤ (l0_3.length : Int)) = true := decide_eq_true c7
    replace H := Option.bind_eq_some_iff.mp H
    obtain ⟨tz0, A80, H⟩ := H
    replace H : (some tz0) = some r := H
    have A8 := Aside0.mk A80
    clear A80
    obtain rfl := Option.some.inj H
    go_enter Try.func149, Try.ntmps149
    go_wp2_with (first | ((with_reducible refine gate_dst (N := 3) rfl ?_); refine box_event (by rfl) (N := 3) (by rfl) (cs := #[.int .i64 a0_0, .int .i64 a0_1, .int .i64 a0_2, .slice A0_3 l0_3.length c0_3]) (t := 27) (by go_simp; done) ?_; intro gbz0 hg w9 hbox hb; replace HB := Aside0.mk (below_step HB.out hb); have BKz0 := Aside0.mk (hbox); clear hb hbox hg; obtain ⟨hcz10_0, -, hcz10_2, hcz10_3, -⟩ := c4 BKz0.out; obtain ⟨i011, hi011, _, hsz11, _⟩ := info_parts info3; obtain ⟨A11, hcut11, hA11, hC11⟩ := print_mid_of (P := Try.prog) (Value.int .i64) 0 22 3 .i64 .i64 Try.underlying22 hi011 hsz11 A0_3 c0_3 l0_3 ji4 (wrap64 (ji4 + a0_2)) (of_decide_eq_true (by (with_reducible assumption))) (by omega) (of_decide_eq_true (by (with_reducible assumption))) HC0_3.out; have aA := Aside0.mk (Kd.C_of_reads (h1 := fun _ => rfl) (hA11 _ (Kd.reads_of_C HR0_3.out))); have aB := Aside0.mk hC11; clear hA11 hC11 hi011 hsz11) | ((with_reducible refine gate_callee (f := 129) rfl ?_); refine goesL_ (some 25) rfl rfl Try.func129 (by kernel_rfl) rfl #[.slice A11 ((l0_3.take ((wrap64 (ji4 + a0_2)) : Int).toNat).drop (ji4 : Int).toNat).length (c0_3 - (ji4).toNat)] rfl (by (try simp only [List.map_toArray, List.map_cons, List.map_nil]); (rw [show ((l0_3.take ((wrap64 (ji4 + a0_2)) : Int).toNat).drop (ji4 : Int).toNat).length = ((wrap64 (ji4 + a0_2)).toNat - (ji4).toNat) from (by rw [List.length_drop, List.length_take]; have h_ : ((wrap64 (ji4 + a0_2)) : Int) ≤ (l0_3.length : Int) := of_decide_eq_true (by (with_reducible assumption)); omega)] <;> rfl)) ?_; (with_reducible refine (spec_copyInts.calls _ _ ((l0_3.take ((wrap64 (ji4 + a0_2)) : Int).toNat).drop (ji4 : Int).toNat) tz0 _ ?side1 ?side2 A8.out).mono ?_); (case side1 => repeat (exact (Kd.C_below aA.out HB.out))); (case side2 => exact aB.out); rintro e w12 ⟨vz0, rfl, ho0, hb⟩; refine ⟨_, rfl, ?_⟩; have n0_ := Aside0.mk (Kd.R_lower ho0 (below_size HB.out)); have n2_ := Aside0.mk (below_step HB.out hb); clear BKz0; clear HB; have HOz0 := n0_; have HB := n2_; (try clear hb); (try clear ho0)))
    go_ret
    exact ⟨_, by rfl, by exact HOz0.out, by exact HB.out⟩
   rw [if_neg c7] at H
   exact absurd H (by simp)
  rw [if_neg c6] at H
  exact absurd H (by simp)
 rw [if_neg c5] at H
 exact absurd H (by simp)


mutual
def spec_paste.l0 : Nat → Int → Int → Int → Int → Int → Int → List Int → Int → Int → Int → List Int → Option (List Int)
 | 0, _, _, _, _, _, _, _, _, _, _, _ => none
 | k + 1, x1, x2, x8, xz2, xz3, xz4, xz5, xz6, xz7, xz8, xz9 => if x8 < xz7 then (spec_paste.l1 k x1 x2 x8 0 xz2 xz3 xz4 xz5 xz6 xz7 xz8 xz9) else (some xz5)
def spec_paste.l1 : Nat → Int → Int → Int → Int → Int → Int → Int → List Int → Int → Int → Int → List Int → Option (List Int)
 | 0, _, _, _, _, _, _, _, _, _, _, _, _ => none
 | k + 1, x1, x2, x8, x9, xz2, xz3, xz4, xz5, xz6, xz7, xz8, xz9 => if x9 < xz6 then ((spec_onImage.f xz2 xz3 xz4 xz5 (wrap64 (x1 + x9)) (wrap64 (x2 + x8))).bind fun tz2 => (if tz2 = true then ((spec_pixelAt.f xz6 xz7 xz8 xz9 x9 x8).bind fun tz1 => ((spec_setPixel.f k xz2 xz3 xz4 xz5 (wrap64 (x1 + x9)) (wrap64 (x2 + x8)) tz1).bind fun tz0 => (spec_paste.l1 k x1 x2 x8 (wrap64 (x9 + 1)) xz2 xz3 xz4 tz0 xz6 xz7 xz8 xz9))) else (spec_paste.l1 k x1 x2 x8 (wrap64 (x9 + 1)) xz2 xz3 xz4 xz5 xz6 xz7 xz8 xz9))) else (spec_paste.l0 k x1 x2 (wrap64 (x8 + 1)) xz2 xz3 xz4 xz5 xz6 xz7 xz8 xz9)
end
def spec_paste.f (k : Nat) (a0_0 : Int) (a0_1 : Int) (a0_2 : Int) (l0_3 : List Int) (a1 : Int) (a2 : Int) (a3_0 : Int) (a3_1 : Int) (a3_2 : Int) (l3_3 : List Int) : Option (List Int) := spec_paste.l0 k a1 a2 0 a0_0 a0_1 a0_2 l0_3 a3_0 a3_1 a3_2 l3_3
def spec_paste.T8 : Bool × List (List Nat × List Nat) := (true, [([], []), ([], []), ([], []), ([1, 2], [1, 2]), ([], []), ([], []), ([4, 5], [4, 5]), ([], []), ([], []), ([], []), ([7, 8, 9], [7, 8, 9]), ([0, 3, 6, 10, 10], [0, 3, 6, 10])])
def spec_paste.B8 : List Nat := [0, 0, 0, 6, 0, 0, 48, 0, 0, 0, 896, 2047]
theorem spec_paste.tab8 : rtab .any (opsOf Try.f122 8) = spec_paste.T8 := by kernel_rfl
theorem spec_paste.bits8 : waitsOk spec_paste.T8.2 spec_paste.B8 = true := by kernel_rfl
theorem spec_paste.calls (k : Nat) (a0_0 : Int) (a0_1 : Int) (a0_2 : Int) (P0_3_ : Nat → Prop) (u9000_ : Value) (l0_3 : List Int) (a1 : Int) (a2 : Int) (a3_0 : Int) (a3_1 : Int) (a3_2 : Int) (A3_3 : Option Addr) (c3_3 : Nat) (l3_3 : List Int) (r : List Int) (w0 w : World) (hB : Below w0.heap.size w0 w) (ho0_3 : Kd.R (Kd.int .i64) 3 w w0.heap.size P0_3_ u9000_ l0_3) (hr3_3 : ∀ W_, Kept w W_ (fun k_ => P0_3_ k_) → Kd.C (Kd.int .i64) W_ A3_3 l3_3.length l3_3) (hc3_3 : l3_3.length ≤ c3_3) (h : spec_paste.f k a0_0 a0_1 a0_2 l0_3 a1 a2 a3_0 a3_1 a3_2 l3_3 = some r) :
  Calls Try.prog 122 #[.agg #[.int .i64 a0_0, .int .i64 a0_1, .int .i64 a0_2, u9000_], .int .i64 a1, .int .i64 a2, .agg #[.int .i64 a3_0, .int .i64 a3_1, .int .i64 a3_2, .slice A3_3 l3_3.length c3_3]] w fun e w' => e = .returned (.tuple #[]) ∧ Kd.R (Kd.int .i64) 3 w' w0.heap.size (fun k_ => (P0_3_ k_ ∨ w.heap.size ≤ k_)) u9000_ r ∧ Below w0.heap.size w0 w' ∧ Kept w w' (fun k_ => P0_3_ k_) := by
 have hu27 := Try.underlying27
 have HO0_3 := mk (show Kd.R (Kd.int .i64) 3 w w0.heap.size (fun k_ => (P0_3_ k_ ∨ w.heap.size ≤ k_)) u9000_ l0_3 from Kd.R_mono ho0_3 (fun k_ hk => (.inl hk)))
 have HR3_3 := mk hr3_3
 have HC3_3 := mk hc3_3
 clear hr3_3 hc3_3
 have HK := mk (Kept.refl w (fun k_ => P0_3_ k_))
 have HW0 := mk hB.size
 have HB := mk hB
 clear hB
 have H : (spec_paste.l0 k a1 a2 0 a0_0 a0_1 a0_2 l0_3 a3_0 a3_1 a3_2 l3_3) = some r := h
 clear h
 have H' := mk H
 clear H
 obtain ⟨Ao5, co5, eo5⟩ := Kd.R_slice HO0_3.out
 subst eo5
 go_enter Try.func122, Try.ntmps122
 go_wp2_with (first | ((with_reducible refine gate_dst (N := 4) rfl ?_); refine box_event (by rfl) (N := 4) (by rfl) (cs := #[.int .i64 a0_0, .int .i64 a0_1, .int .i64 a0_2, .slice Ao5 l0_3.length co5]) (t := 27) (by go_simp; done) ?_; intro gbz0 hg w6 hbox hb; replace HO0_3 := mk (Kd.R_below HO0_3.out hb); replace HK := mk (Kept.below (S := (fun k_ => P0_3_ k_)) HK.out hb); replace HB := mk (below_step HB.out hb); have BKz0 := mk (hbox); clear hb hbox hg) | ((with_reducible refine gate_dst (N := 7) rfl ?_); refine box_event (by rfl) (N := 7) (by rfl) (cs := #[.int .i64 a3_0, .int .i64 a3_1, .int .i64 a3_2, .slice A3_3 l3_3.length c3_3]) (t := 27) (by go_simp; done) ?_; intro gbz1 hg w7 hbox hb; replace HO0_3 := mk (Kd.R_below HO0_3.out hb); replace BKz0 := mk (blk_below BKz0.out hb); replace HK := mk (Kept.below (S := (fun k_ => P0_3_ k_)) HK.out hb); replace HB := mk (below_step HB.out hb); have BKz1 := mk (hbox); clear hb hbox hg))
 go_loopg [8] k (fun kq v8 w' => ∃ (x8_1 : Int) (xz1 : List Int), v8 = .int .i64 x8_1 ∧ Aside0 (spec_paste.l0 kq a1 a2 x8_1 a0_0 a0_1 a0_2 xz1 a3_0 a3_1 a3_2 l3_3 = some r) ∧ Aside0 (kq ≤ k) ∧ Aside0 (Kd.R (Kd.int .i64) 3 w' w0.heap.size (fun k_ => (P0_3_ k_ ∨ w.heap.size ≤ k_)) (.slice Ao5 l0_3.length co5) xz1) ∧ Aside0 (w'.heap[gbz0]? = some (.cells #[.int .i64 a0_0, .int .i64 a0_1, .int .i64 a0_2, (.slice Ao5 l0_3.length co5)] 27 (0, 0))) ∧ Aside0 (w'.heap[gbz1]? = some (.cells #[.int .i64 a3_0, .int .i64 a3_1, .int .i64 a3_2, (.slice A3_3 l3_3.length c3_3)] 27 (0, 0))) ∧ Aside0 (Kept w w' (fun k_ => P0_3_ k_)) ∧ Aside0 (Below w0.heap.size w0 w'))
 case atStart => exact ⟨(0), (l0_3), (by rfl), H', ⟨Nat.le_refl _⟩, HO0_3, BKz0, BKz1, HK, HB⟩
 case round =>
  clear H'
  obtain ⟨x8_1, xz1, rfl, HA, HK1, HOz0, BKz0, BKz1, HK, HB⟩ := hrel
  have aB := (Kd.R_reads' HOz0.out).1
  rw [aB] at HOz0
  (try simp only [aB])
  (try simp only [aB] at BKz0)
  cases gk with
  | zero => exact absurd HA.out (by simp [spec_paste.l0])
  | succ k1 =>
   have H := HA.out
   clear HA
   simp only [spec_paste.l0] at H
   by_cases c8 : x8_1 < a3_1
   ·rw [if_pos c8] at H
    have c8b0 : decide (x8_1 < a3_1) = true := decide_eq_true c8
    clear c8
    have H' := mk H
    clear H
    obtain ⟨hcz10_0, hcz10_1, hcz10_2, hcz10_3, hfz10_0, hfz10_1, hfz10_2, hfz10_3⟩ := c4 BKz1.out
    go_wp2
    go_loopg [9] k1 (fun kq v9 w' => ∃ (x9_2 : Int) (xz0 : List Int), v9 = .int .i64 x9_2 ∧ Aside0 (spec_paste.l1 kq a1 a2 x8_1 x9_2 a0_0 a0_1 a0_2 xz0 a3_0 a3_1 a3_2 l3_3 = some r) ∧ Aside0 (kq ≤ k1) ∧ Aside0 (Kd.R (Kd.int .i64) 3 w' w0.heap.size (fun k_ => (P0_3_ k_ ∨ w.heap.size ≤ k_)) (.slice Ao5 xz1.length co5) xz0) ∧ Aside0 (w'.heap[gbz0]? = some (.cells #[.int .i64 a0_0, .int .i64 a0_1, .int .i64 a0_2, (.slice Ao5 xz1.length co5)] 27 (0, 0))) ∧ Aside0 (w'.heap[gbz1]? = some (.cells #[.int .i64 a3_0, .int .i64 a3_1, .int .i64 a3_2, (.slice A3_3 l3_3.length c3_3)] 27 (0, 0))) ∧ Aside0 (Kept w w' (fun k_ => P0_3_ k_)) ∧ Aside0 (Below w0.heap.size w0 w'))
    case atStart => exact ⟨(0), (xz1), (by rfl), H', ⟨Nat.le_refl _⟩, HOz0, BKz0, BKz1, HK, HB⟩
    case round =>
     clear H'
     obtain ⟨x9_2, xz0, rfl, HA, HK2, HOz0, BKz0, BKz1, HK, HB⟩ := hrel
     have aA := (Kd.R_reads' HOz0.out).1
     rw [aA] at HOz0
     (try simp only [aA])
     (try simp only [aA] at BKz0)
     cases gk with
     | zero => exact absurd HA.out (by simp [spec_paste.l1])
     | succ k2 =>
      have H := HA.out
      clear HA
      simp only [spec_paste.l1] at H
      by_cases c11 : x9_2 < a3_0
      ·rw [if_pos c11] at H
       have c11b0 : decide (x9_2 < a3_0) = true := decide_eq_true c11
       clear c11
       replace H := Option.bind_eq_some_iff.mp H
       obtain ⟨tz2, A120, H⟩ := H
       replace H : (if tz2 = true then ((spec_pixelAt.f a3_0 a3_1 a3_2 l3_3 x9_2 x8_1).bind fun tz1 => ((spec_setPixel.f k2 a0_0 a0_1 a0_2 xz0 (wrap64 (a1 + x9_2)) (wrap64 (a2 + x8_1)) tz1).bind fun tz0 => (spec_paste.l1 k2 a1 a2 x8_1 (wrap64 (x9_2 + 1)) a0_0 a0_1 a0_2 tz0 a3_0 a3_1 a3_2 l3_3))) else (spec_paste.l1 k2 a1 a2 x8_1 (wrap64 (x9_2 + 1)) a0_0 a0_1 a0_2 xz0 a3_0 a3_1 a3_2 l3_3)) = some r := H
       have A12 := mk A120
       clear A120
       by_cases c13 : tz2 = true
       ·subst c13
        have H1 : ((spec_pixelAt.f a3_0 a3_1 a3_2 l3_3 x9_2 x8_1).bind fun tz1 => ((spec_setPixel.f k2 a0_0 a0_1 a0_2 xz0 (wrap64 (a1 + x9_2)) (wrap64 (a2 + x8_1)) tz1).bind fun tz0 => (spec_paste.l1 k2 a1 a2 x8_1 (wrap64 (x9_2 + 1)) a0_0 a0_1 a0_2 tz0 a3_0 a3_1 a3_2 l3_3))) = some r := by rw [if_pos rfl] at H; exact H
        clear H
        have H := H1
        clear H1
        replace H := Option.bind_eq_some_iff.mp H
        obtain ⟨tz1, A140, H⟩ := H
        replace H : ((spec_setPixel.f k2 a0_0 a0_1 a0_2 xz0 (wrap64 (a1 + x9_2)) (wrap64 (a2 + x8_1)) tz1).bind fun tz0 => (spec_paste.l1 k2 a1 a2 x8_1 (wrap64 (x9_2 + 1)) a0_0 a0_1 a0_2 tz0 a3_0 a3_1 a3_2 l3_3)) = some r := H
        have A14 := mk A140
        clear A140
        replace H := Option.bind_eq_some_iff.mp H
        obtain ⟨tz0, A150, H⟩ := H
        replace H : (spec_paste.l1 k2 a1 a2 x8_1 (wrap64 (x9_2 + 1)) a0_0 a0_1 a0_2 tz0 a3_0 a3_1 a3_2 l3_3) = some r := H
        have A15 := mk A150
        clear A150
        have H' := mk H
        clear H
        have hcz17_0 : wr.cell? ⟨gbz1, 0, none⟩ = some (.int .i64 a3_0) := (blk_cell BKz1.out 0).trans rfl
        obtain ⟨hcz18_0, hcz18_1, hcz18_2, hcz18_3, -⟩ := c4 BKz0.out
        try go_wp2_with (first | ((with_reducible refine gate_callee (f := 144) rfl ?_); refine goesL_ (some 29) rfl rfl Try.func144 (by kernel_rfl) rfl #[.agg #[.int .i64 a0_0, .int .i64 a0_1, .int .i64 a0_2, .slice Ao5 xz0.length co5], .int .i64 (wrap64 (a1 + x9_2)), .int .i64 (wrap64 (a2 + x8_1))] rfl (by (try simp only [bitvec_to_nat]); rfl) ?_; (with_reducible refine (spec_onImage.calls a0_0 a0_1 a0_2 _ _ xz0 (wrap64 (a1 + x9_2)) (wrap64 (a2 + x8_1)) true _ ?side1 ?side2 A12.out).mono ?_); (case side1 => repeat (exact (Kd.R_reads' HOz0.out).2.2)); (case side2 => exact (Kd.R_reads' HOz0.out).2.1); rintro e w19 ⟨rfl, hb⟩; refine ⟨_, rfl, ?_⟩; replace HOz0 := mk (Kd.R_below HOz0.out hb); replace BKz0 := mk (blk_below BKz0.out hb); replace BKz1 := mk (blk_below BKz1.out hb); replace HK := mk (Kept.below (S := (fun k_ => P0_3_ k_)) HK.out hb); replace HB := mk (below_step HB.out hb); (try clear hb)))
        replace HOz0 := mk (Kd.R_drew HOz0.out)
        replace BKz0 := mk (blk_drew BKz0.out)
        replace BKz1 := mk (blk_drew BKz1.out)
        replace HK := mk (Kept.drew HK.out)
        replace HB := mk (below_drew1 HB.out)
        refine start_ (n := 12) (S := fun w' => w'.cell? ⟨gbz0, 0, none⟩ = some (.int .i64 a0_0) ∧ w'.cell? ⟨gbz0, 1, none⟩ = some (.int .i64 a0_1) ∧ w'.cell? ⟨gbz0, 2, none⟩ = some (.int .i64 a0_2) ∧ w'.cell? ⟨gbz0, 3, none⟩ = some (.slice Ao5 xz0.length co5) ∧ w'.cell? ⟨gbz1, 0, none⟩ = some (.int .i64 a3_0) ∧ w'.cell? ⟨gbz1, 1, none⟩ = some (.int .i64 a3_1) ∧ w'.cell? ⟨gbz1, 2, none⟩ = some (.int .i64 a3_2) ∧ w'.cell? ⟨gbz1, 3, none⟩ = some (.slice A3_3 l3_3.length c3_3)) (ds := []) #[false, false, false, false, false, false, false, false, false, false, false, false] (by kernel_rfl) rfl rfl ⟨blk_cell BKz0.out 0, blk_cell BKz0.out 1, blk_cell BKz0.out 2, blk_cell BKz0.out 3, blk_cell BKz1.out 0, blk_cell BKz1.out 1, blk_cell BKz1.out 2, blk_cell BKz1.out 3⟩ (fun hHeld => ?_); refine with_tabW spec_paste.tab8 spec_paste.bits8 (fun HT_ HW_ => ?_)
        generalize w19.drew = w20 at HOz0 BKz0 BKz1 HK HB hHeld ⊢
        refine pu 1 31 ?_ ?_ rfl rfl (any_of HT_.out (by kernel_rfl)) (Or.inl ⟨by rfl, ?_⟩) ?_ ?_
        rotate_left 2
        ·intro w'
         go_simp
         with_reducible rfl
        ·simp only [seval]
         rfl
        refine pu 2 32 ?_ ?_ rfl rfl (any_of HT_.out (by kernel_rfl)) (Or.inl ⟨by rfl, ?_⟩) ?_ ?_
        rotate_left 2
        ·intro w'
         go_simp
         with_reducible rfl
        ·simp only [seval]
         rfl
        refine pu 3 33 ?_ ?_ rfl rfl (any_of HT_.out (by kernel_rfl)) (Or.inl ⟨by rfl, ?_⟩) ?_ ?_
        rotate_left 2
        ·intro w'
         go_simp
         with_reducible rfl
        ·simp only [seval]
         rfl
        refine pu 4 34 ?_ ?_ rfl rfl (any_of HT_.out (by kernel_rfl)) (Or.inl ⟨by rfl, ?_⟩) ?_ ?_
        rotate_left 2
        ·intro w'
         go_simp
         with_reducible rfl
        ·simp only [seval]
         rfl
        refine pu 5 35 ?_ ?_ rfl rfl (any_of HT_.out (by kernel_rfl)) (Or.inl ⟨by rfl, ?_⟩) ?_ ?_
        rotate_left 2
        ·intro w'
         go_simp
         with_reducible rfl
        ·simp only [seval]
         rfl
        refine pu 6 36 ?_ ?_ rfl rfl (any_of HT_.out (by kernel_rfl)) (Or.inl ⟨by rfl, ?_⟩) ?_ ?_
        rotate_left 2
        ·intro w'
         go_simp
         with_reducible rfl
        ·simp only [seval]
         rfl
        refine pu 8 38 ?_ ?_ rfl rfl (any_of HT_.out (by kernel_rfl)) (Or.inl ⟨by rfl, ?_⟩) ?_ ?_
        rotate_left 2
        ·intro w'
         go_simp
         with_reducible rfl
        ·simp only [seval]
         rfl
        refine pu 9 39 ?_ ?_ rfl rfl (any_of HT_.out (by kernel_rfl)) (Or.inl ⟨by rfl, ?_⟩) ?_ ?_
        rotate_left 2
        ·intro w'
         go_simp
         with_reducible rfl
        ·simp only [seval]
         rfl
        refine tk 0 30 ?_ ?_ rfl rfl (take_ofW HT_.out HW_.out (by kernel_rfl)) (Or.inl ⟨by rfl, ?_⟩) hHeld ?_ ?_
        rotate_left 2
        ·rintro w' ⟨s0, s1, s2, s3, s4, s5, s6, s7⟩
         go_simp
         with_reducible rfl
        ·simp only [seval]
         rfl
        refine tk 7 37 ?_ ?_ rfl rfl (take_ofW HT_.out HW_.out (by kernel_rfl)) (Or.inl ⟨by rfl, ?_⟩) hHeld ?_ ?_
        rotate_left 2
        ·rintro w' ⟨s0, s1, s2, s3, s4, s5, s6, s7⟩
         go_simp
         with_reducible rfl
        ·simp only [seval]
         rfl
        refine one_ (i := 10) (N := some 40) #[true, true, true, true, true, true, true, true, true, true, true, false] rfl rfl (one_of HT_.out (by kernel_rfl)) (by decide) (fun K hK => ?_)
        refine goes_ Try.func149 (by kernel_rfl) rfl #[.agg #[.int .i64 a3_0, .int .i64 a3_1, .int .i64 a3_2, .slice A3_3 l3_3.length c3_3], .int .i64 x9_2, .int .i64 x8_1] (by rfl) rfl rfl (by (try simp only [bitvec_to_nat]); rfl) ?_
        with_reducible refine (spec_pixelAt.calls a3_0 a3_1 a3_2 _ _ l3_3 x9_2 x8_1 tz1 _ ?side1 ?side2 A14.out).mono ?_
        (case side1 => exact Kd.C_kept_now HR3_3.out HK.out)
        (case side2 => exact HC3_3.out)
        rintro e w21 ⟨vz0, rfl, ho0, hb⟩
        refine ⟨_, rfl, ?_⟩
        have HOz1 := mk (Kd.R_lower (Kd.R_new' (Kd.R_newM (M := fun k_ => (P0_3_ k_ ∨ w.heap.size ≤ k_)) ho0 HK.out.1 (fun k_ h_ => .inr h_)) (Kd.R_lt HOz0.out)) (below_size HB.out))
        replace HOz0 := mk (Kd.R_elder' HOz0.out (Kd.R_base ho0) hb)
        replace BKz0 := mk (blk_below BKz0.out hb)
        replace BKz1 := mk (blk_below BKz1.out hb)
        replace HK := mk (Kept.below (S := (fun k_ => P0_3_ k_)) HK.out hb)
        replace HB := mk (below_step HB.out hb)
        (try clear hb)
        (try clear ho0)
        obtain ⟨Ao22, co22, eo22⟩ := Kd.R_slice HOz1.out
        (subst eo22)
        refine hK.out _ _ ⟨blk_cell BKz0.out 0, blk_cell BKz0.out 1, blk_cell BKz0.out 2, blk_cell BKz0.out 3, blk_cell BKz1.out 0, blk_cell BKz1.out 1, blk_cell BKz1.out 2, blk_cell BKz1.out 3⟩ (fun hHeld => ?_)
        clear hK K
        refine norm_ (a' := ?_) ?_ ?_
        rotate_left
        ·show Act.put _ (some 40) _ = _
         simp only [seval]
         rfl
        refine one_ (i := 11) (N := some 41) #[true, true, true, true, true, true, true, true, true, true, true, true] rfl rfl (one_of HT_.out (by kernel_rfl)) (by decide) (fun K hK => ?_)
        refine goes_ Try.func148 (by kernel_rfl) rfl #[.agg #[.int .i64 a0_0, .int .i64 a0_1, .int .i64 a0_2, .slice Ao5 xz0.length co5], .int .i64 (wrap64 (a1 + x9_2)), .int .i64 (wrap64 (a2 + x8_1)), .slice Ao22 tz1.length co22] (by rfl) rfl rfl (by (try simp only [bitvec_to_nat]); rfl) ?_
        with_reducible refine (spec_setPixel.calls k2 a0_0 a0_1 a0_2 (fun k_ => some k_ = (.slice Ao5 xz0.length co5 : Value).ownBlock) (.slice Ao5 xz0.length co5) xz0 (wrap64 (a1 + x9_2)) (wrap64 (a2 + x8_1)) _ _ tz1 tz0 w0 _ ?side1 ?side2 ?side3 ?side4 A15.out).mono ?_
        (case side1 => repeat (with_reducible exact HB.out))
        (case side2 => exact Kd.R_tight rfl HOz0.out)
        (case side3 => exact Kd.C_kept_own HOz1.out (fun k_ hk_ hs_ => hk_.2 hs_))
        (case side4 => exact (Kd.R_reads' HOz1.out).2.1)
        rintro e w23 ⟨rfl, hy0, hb, hkp⟩
        refine ⟨_, rfl, ?_⟩
        replace BKz0 := mk (blk_kept BKz0.out hkp (fun hs_ => (fun e_ => (Kd.R_ne HOz0.out BKz0.out (by decide)) e_) hs_))
        replace BKz1 := mk (blk_kept BKz1.out hkp (fun hs_ => (fun e_ => (Kd.R_ne HOz0.out BKz1.out (by decide)) e_) hs_))
        replace HOz1 := mk (Kd.R_mono (ok' := fun k_ => (P0_3_ k_ ∨ w.heap.size ≤ k_) ∧ some k_ ≠ (.slice Ao5 xz0.length co5 : Value).ownBlock) (Kd.R_keptB HOz1.out hkp (fun k_ hk_ hs_ => hk_.2 hs_)) (fun k_ hk_ => ⟨hk_.1.1.1, hk_.1.2⟩))
        replace HK := mk (Kept.then_ (S := (fun k_ => P0_3_ k_)) HK.out hkp (fun k_ hs_ => (fun e_ => (HOz0.out.1 k_ e_.symm).1) hs_))
        replace HOz0 := mk (Kd.R_reok rfl hy0 (fun k_ e_ => HOz0.out.1 k_ e_))
        replace HB := mk (hb)
        (try clear hb)
        (try clear hkp)
        (try clear hy0)
        refine hK.out _ _ ⟨blk_cell BKz0.out 0, blk_cell BKz0.out 1, blk_cell BKz0.out 2, blk_cell BKz0.out 3, blk_cell BKz1.out 0, blk_cell BKz1.out 1, blk_cell BKz1.out 2, blk_cell BKz1.out 3⟩ (fun hHeld => ?_)
        clear hK K
        refine norm_ (a' := ?_) ?_ ?_
        rotate_left
        ·show Act.put _ (some 41) _ = _
         simp only [seval]
         rfl
        refine done_ (done_of HT_.out (by kernel_rfl)) ?_
        try go_wp2
        (try simp only [← aA])
        go_roundg k2
        case measure => have := HK1.out; have := HK2.out; omega
        case rel => exact ⟨(wrap64 (x9_2 + 1)), (tz0), (by rfl), H', ⟨by have := HK1.out; have := HK2.out; omega⟩, ⟨by (try simp only [aA]); exact Kd.R_mono HOz0.out (fun _ hk => hk.1)⟩, ⟨by (try simp only [aA]); exact BKz0.out⟩, BKz1, HK, HB⟩
       replace c13 := Bool.eq_false_iff.mpr c13
       subst c13
       have H1 : (spec_paste.l1 k2 a1 a2 x8_1 (wrap64 (x9_2 + 1)) a0_0 a0_1 a0_2 xz0 a3_0 a3_1 a3_2 l3_3) = some r := by rw [if_neg (show ¬ (false = true) by decide)] at H; exact H
       clear H
       have H := H1
       clear H1
       have H' := mk H
       clear H
       have hcz25_0 : wr.cell? ⟨gbz1, 0, none⟩ = some (.int .i64 a3_0) := (blk_cell BKz1.out 0).trans rfl
       obtain ⟨hcz26_0, hcz26_1, hcz26_2, hcz26_3, -⟩ := c4 BKz0.out
       go_wp2_with (first | ((with_reducible refine gate_callee (f := 144) rfl ?_); refine goesL_ (some 29) rfl rfl Try.func144 (by kernel_rfl) rfl #[.agg #[.int .i64 a0_0, .int .i64 a0_1, .int .i64 a0_2, .slice Ao5 xz0.length co5], .int .i64 (wrap64 (a1 + x9_2)), .int .i64 (wrap64 (a2 + x8_1))] rfl (by (try simp only [bitvec_to_nat]); rfl) ?_; (with_reducible refine (spec_onImage.calls a0_0 a0_1 a0_2 _ _ xz0 (wrap64 (a1 + x9_2)) (wrap64 (a2 + x8_1)) false _ ?side1 ?side2 A12.out).mono ?_); (case side1 => repeat (exact (Kd.R_reads' HOz0.out).2.2)); (case side2 => exact (Kd.R_reads' HOz0.out).2.1); rintro e w27 ⟨rfl, hb⟩; refine ⟨_, rfl, ?_⟩; replace HOz0 := mk (Kd.R_below HOz0.out hb); replace BKz0 := mk (blk_below BKz0.out hb); replace BKz1 := mk (blk_below BKz1.out hb); replace HK := mk (Kept.below (S := (fun k_ => P0_3_ k_)) HK.out hb); replace HB := mk (below_step HB.out hb); (try clear hb)))
       (try simp only [← aA])
       go_roundg k2
       case measure => have := HK1.out; have := HK2.out; omega
       case rel => exact ⟨(wrap64 (x9_2 + 1)), (xz0), (by rfl), H', ⟨by have := HK1.out; have := HK2.out; omega⟩, ⟨by (try simp only [aA]); exact HOz0.out⟩, ⟨by (try simp only [aA]); exact BKz0.out⟩, BKz1, HK, HB⟩
      rw [if_neg c11] at H
      have c11b0 : decide (x9_2 < a3_0) = false := decide_eq_false c11
      clear c11
      have H' := mk H
      clear H
      have hcz29_0 : wr.cell? ⟨gbz1, 0, none⟩ = some (.int .i64 a3_0) := (blk_cell BKz1.out 0).trans rfl
      go_wp2
      (try simp only [← aB, ← aA])
      go_roundg k2
      case measure => have := HK1.out; have := HK2.out; omega
      case rel => exact ⟨(wrap64 (x8_1 + 1)), (xz0), (by rfl), H', ⟨by have := HK1.out; have := HK2.out; omega⟩, ⟨by (try simp only [aB]); (try simp only [aA]); exact HOz0.out⟩, ⟨by (try simp only [aB]); (try simp only [aA]); exact BKz0.out⟩, BKz1, HK, HB⟩
   rw [if_neg c8] at H
   have c8b0 : decide (x8_1 < a3_1) = false := decide_eq_false c8
   clear c8
   obtain rfl := Option.some.inj H
   have hcz31_1 : wr.cell? ⟨gbz1, 1, none⟩ = some (.int .i64 a3_1) := (blk_cell BKz1.out 1).trans rfl
   go_wp2
   go_end0
   exact ⟨by rfl, HOz0.out, by exact HB.out, by exact HK.out⟩


def spec_newImage.f (a0 : Int) (a1 : Int) (a2 : Int) : Option (Int × Int × Int × List Int) := if 0 ≤ (wrap64 ((wrap64 (a0 * a1)) * a2)) then (if (wrap64 ((wrap64 (a0 * a1)) * a2) : Int).toNat ≤ 35184372088832 then (some (a0, a1, a2, (List.replicate (wrap64 ((wrap64 (a0 * a1)) * a2) : Int).toNat 0))) else none) else (none)
theorem spec_newImage.calls (a0 : Int) (a1 : Int) (a2 : Int) (r1 : Int) (r2 : Int) (r3 : Int) (r4 : List Int) (w : World) (h : spec_newImage.f a0 a1 a2 = some (r1, r2, r3, r4)) :
  Calls Try.prog 111 #[.int .i64 a0, .int .i64 a1, .int .i64 a2] w fun e w' => ∃ v3_ : Value, e = .returned (.agg #[.int .i64 r1, .int .i64 r2, .int .i64 r3, v3_]) ∧ Kd.R (Kd.int .i64) 3 w' w.heap.size (fun _ => True) v3_ r4 ∧ Below w.heap.size w w' := by
 have hu27 := Try.underlying27
 have HB := Aside0.mk (Below.refl w.heap.size w)
 have H : (if 0 ≤ (wrap64 ((wrap64 (a0 * a1)) * a2)) then (if (wrap64 ((wrap64 (a0 * a1)) * a2) : Int).toNat ≤ 35184372088832 then (some (a0, a1, a2, (List.replicate (wrap64 ((wrap64 (a0 * a1)) * a2) : Int).toNat 0))) else none) else none) = some (r1, r2, r3, r4) := h
 clear h
 obtain ⟨ji4, hji4⟩ : ∃ j_ : Int, (wrap64 ((wrap64 (a0 * a1)) * a2)) = j_ := ⟨_, rfl⟩
 replace H : (if 0 ≤ ji4 then (if (ji4 : Int).toNat ≤ 35184372088832 then (some (a0, a1, a2, (List.replicate (ji4 : Int).toNat 0))) else none) else none) = some (r1, r2, r3, r4) := by (rw [hji4] at H; exact H)
 have hji4w : (IntKind.i64.wrap ((wrap64 (a0 * a1)) * a2)) = ji4 := (i64_w _).trans hji4
 by_cases c5 : 0 ≤ (ji4)
 ·rw [if_pos c5] at H
  have c5b0 := eq_true c5
  have c5b1 : decide (0 ≤ ji4) = true := decide_eq_true c5
  clear c5
  by_cases c6 : (ji4 : Int).toNat ≤ 35184372088832
  ·rw [if_pos c6] at H
   have c6b0 := eq_true c6
   have c6b1 : decide ((ji4 : Int).toNat ≤ 35184372088832) = true := decide_eq_true c6
   clear c6
   obtain ⟨yz0, hyz0⟩ : ∃ y_ : List Int, y_ = (List.replicate (ji4 : Int).toNat 0) := ⟨_, rfl⟩
   replace H : (some (a0, a1, a2, yz0)) = some (r1, r2, r3, r4) := by (rw [hyz0]; with_reducible exact H)
   have Nyz0 := Aside0.mk hyz0
   clear hyz0
   simp only [Option.some.injEq, Prod.mk.injEq] at H
   obtain ⟨rfl, rfl, rfl, rfl⟩ := H
   go_enter Try.func111, Try.ntmps111
   go_wp2_with (first | ((with_reducible refine gate_dst (N := 6) rfl ?_); refine box_event (by rfl) (N := 6) (by rfl) (cs := #[.int .i64 0, .int .i64 0, .int .i64 0, .slice none 0 0]) (t := 27) (by go_simp; done) ?_; intro gbz0 hg w7 hbox hb; have BKz0 := Aside0.mk (hbox); have GEz0 := Aside0.mk ((by rw [hg]; exact (below_size HB.out) : w.heap.size ≤ gbz0)); replace HB := Aside0.mk (below_step HB.out hb); clear hb hbox hg) | ((with_reducible refine gate_dst (N := 15) rfl ?_); refine Kd.R_make (Kd.int .i64) _ 3 rfl (N := 15) rfl 22 _ _ rfl ji4 rfl rfl Try.underlying22 (.int .i64 0) 8 info3 rfl (by decide) (by omega) 0 (ok := fun _ => True) (okp := fun _ => True) rfl (fun _ hk => hk) trivial (of_decide_eq_true (by (with_reducible assumption))) (Nat.le_trans (Nat.mul_le_mul_right _ (of_decide_eq_true (by (with_reducible assumption)) : ji4.toNat ≤ 35184372088832)) (by omega)) (Below.refl _ _) (Nat.le_refl _) ?_; intro vz0 w8 ho9 hb hg_ hnew_; clear hg_ hnew_; (rw [← Nyz0.out] at ho9); have HOz0 := Aside0.mk (Kd.R_lower ho9 (below_size HB.out)); replace BKz0 := Aside0.mk (blk_below BKz0.out hb); replace HB := Aside0.mk (below_step HB.out hb); clear hb ho9; obtain ⟨Ao10, co10, eo10⟩ := Kd.R_slice HOz0.out; subst eo10; obtain ⟨hcz11_0, hcz11_1, hcz11_2, hcz11_3, hfz11_0, hfz11_1, hfz11_2, hfz11_3⟩ := c4 BKz0.out))
   refine bodyPost_ret (results_cell_row rfl _ _ gbz0 27 #[.int .i64 a0, .int .i64 a1, .int .i64 a2, .slice Ao10 yz0.length co10] (0, 0) _ rfl (by refine blk_put (cs := #[.int .i64 a0, .int .i64 a1, .int .i64 a2, .slice none 0 0]) ?_ 3 _ rfl; refine blk_put (cs := #[.int .i64 a0, .int .i64 a1, .int .i64 0, .slice none 0 0]) ?_ 2 _ rfl; refine blk_put (cs := #[.int .i64 a0, .int .i64 0, .int .i64 0, .slice none 0 0]) ?_ 1 _ rfl; refine blk_put (cs := #[.int .i64 0, .int .i64 0, .int .i64 0, .slice none 0 0]) ?_ 0 _ rfl; exact BKz0.out) Try.underlying27 rfl (by kernel_rfl)) rfl ?_
   exact ⟨_, by rfl, by exact Kd.R_mono (Kd.R_far (p := ⟨gbz0, 3, none⟩) (Kd.R_far (p := ⟨gbz0, 2, none⟩) (Kd.R_far (p := ⟨gbz0, 1, none⟩) (Kd.R_far (p := ⟨gbz0, 0, none⟩) (Kd.R_types HOz0.out BKz0.out (by decide)) (fun _ hk => hk.2) (.int .i64 a0)) (fun _ hk => hk.2) (.int .i64 a1)) (fun _ hk => hk.2) (.int .i64 a2)) (fun _ hk => hk.2) (.slice Ao10 yz0.length co10)) (fun _ hk => trivial), by repeat (with_reducible first | exact HB.out | refine below_set ?_ GEz0.out)⟩
  rw [if_neg c6] at H
  exact absurd H (by simp)
 rw [if_neg c5] at H
 exact absurd H (by simp)


mutual
def spec_crop.l0 : Nat → Int → Int → Int → Int → Int → Int → Int → Int → List Int → Int → Int → Int → List Int → Option (Int × Int × Int × List Int)
 | 0, _, _, _, _, _, _, _, _, _, _, _, _, _ => none
 | k + 1, x1, x2, x3, x4, x12, xz5, xz6, xz7, xz8, xz2, xz3, xz4, xz9 => if x12 < x4 then (spec_crop.l1 k x1 x2 x3 x4 x12 0 xz5 xz6 xz7 xz8 xz2 xz3 xz4 xz9) else (some (xz2, xz3, xz4, xz9))
def spec_crop.l1 : Nat → Int → Int → Int → Int → Int → Int → Int → Int → Int → List Int → Int → Int → Int → List Int → Option (Int × Int × Int × List Int)
 | 0, _, _, _, _, _, _, _, _, _, _, _, _, _, _ => none
 | k + 1, x1, x2, x3, x4, x12, x13, xz5, xz6, xz7, xz8, xz2, xz3, xz4, xz9 => if x13 < x3 then ((spec_pixelAt.f xz5 xz6 xz7 xz8 (wrap64 (x1 + x13)) (wrap64 (x2 + x12))).bind fun tz4 => ((spec_setPixel.f k xz2 xz3 xz4 xz9 x13 x12 tz4).bind fun tz3 => (spec_crop.l1 k x1 x2 x3 x4 x12 (wrap64 (x13 + 1)) xz5 xz6 xz7 xz8 xz2 xz3 xz4 tz3))) else (spec_crop.l0 k x1 x2 x3 x4 (wrap64 (x12 + 1)) xz5 xz6 xz7 xz8 xz2 xz3 xz4 xz9)
end
def spec_crop.f (k : Nat) (a0_0 : Int) (a0_1 : Int) (a0_2 : Int) (l0_3 : List Int) (a1 : Int) (a2 : Int) (a3 : Int) (a4 : Int) : Option (Int × Int × Int × List Int) := (spec_newImage.f a3 a4 a0_2).bind fun btz0 => (spec_crop.l0 k a1 a2 a3 a4 0 a0_0 a0_1 a0_2 l0_3 btz0.1 btz0.2.1 btz0.2.2.1 btz0.2.2.2)
def spec_crop.T8 : Bool × List (List Nat × List Nat) := (true, [([], []), ([], []), ([], []), ([], []), ([], []), ([], []), ([4, 5], [4, 5]), ([], []), ([], []), ([7, 8], [7, 8]), ([3, 6, 9], [3, 6, 9]), ([0, 1, 2, 10, 10], [0, 1, 2, 10])])
def spec_crop.B8 : List Nat := [0, 0, 0, 0, 0, 0, 48, 0, 0, 384, 1016, 2047]
theorem spec_crop.tab8 : rtab .any (opsOf Try.f123 8) = spec_crop.T8 := by kernel_rfl
theorem spec_crop.bits8 : waitsOk spec_crop.T8.2 spec_crop.B8 = true := by kernel_rfl
theorem spec_crop.calls (k : Nat) (a0_0 : Int) (a0_1 : Int) (a0_2 : Int) (A0_3 : Option Addr) (c0_3 : Nat) (l0_3 : List Int) (a1 : Int) (a2 : Int) (a3 : Int) (a4 : Int) (r1 : Int) (r2 : Int) (r3 : Int) (r4 : List Int) (w : World) (hr0_3 : Kd.C (Kd.int .i64) w A0_3 l0_3.length l0_3) (hc0_3 : l0_3.length ≤ c0_3) (h : spec_crop.f k a0_0 a0_1 a0_2 l0_3 a1 a2 a3 a4 = some (r1, r2, r3, r4)) :
  Calls Try.prog 123 #[.agg #[.int .i64 a0_0, .int .i64 a0_1, .int .i64 a0_2, .slice A0_3 l0_3.length c0_3], .int .i64 a1, .int .i64 a2, .int .i64 a3, .int .i64 a4] w fun e w' => ∃ v3_ : Value, e = .returned (.agg #[.int .i64 r1, .int .i64 r2, .int .i64 r3, v3_]) ∧ Kd.R (Kd.int .i64) 3 w' w.heap.size (fun _ => True) v3_ r4 ∧ Below w.heap.size w w' := by
 have hu27 := Try.underlying27
 have HR0_3 := mk hr0_3
 have HC0_3 := mk hc0_3
 clear hr0_3 hc0_3
 have HB := mk (Below.refl w.heap.size w)
 have H : ((spec_newImage.f a3 a4 a0_2).bind fun btz0 => (spec_crop.l0 k a1 a2 a3 a4 0 a0_0 a0_1 a0_2 l0_3 btz0.1 btz0.2.1 btz0.2.2.1 btz0.2.2.2)) = some (r1, r2, r3, r4) := h
 clear h
 replace H := Option.bind_eq_some_iff.mp H
 obtain ⟨⟨tz0, tz1, tz2, tz5⟩, A60, H⟩ := H
 replace H : (spec_crop.l0 k a1 a2 a3 a4 0 a0_0 a0_1 a0_2 l0_3 tz0 tz1 tz2 tz5) = some (r1, r2, r3, r4) := H
 have A6 := mk A60
 clear A60
 have H' := mk H
 clear H
 go_enter Try.func123, Try.ntmps123
 go_wp2_with (first | ((with_reducible refine gate_dst (N := 5) rfl ?_); refine box_event (by rfl) (N := 5) (by rfl) (cs := #[.int .i64 a0_0, .int .i64 a0_1, .int .i64 a0_2, .slice A0_3 l0_3.length c0_3]) (t := 27) (by go_simp; done) ?_; intro gbz2 hg w7 hbox hb; replace HB := mk (below_step HB.out hb); have BKz0 := mk (hbox); clear hb hbox hg) | ((with_reducible refine gate_dst (N := 10) rfl ?_); refine box_event (by rfl) (N := 10) (by rfl) (cs := #[.int .i64 0, .int .i64 0, .int .i64 0, .slice none 0 0]) (t := 27) (by go_simp; done) ?_; intro gbz1 hg w8 hbox hb; replace BKz0 := mk (blk_below BKz0.out hb); have BKz2 := mk (hbox); have GEz0 := mk ((by rw [hg]; exact (below_size HB.out) : w.heap.size ≤ gbz1)); replace HB := mk (below_step HB.out hb); clear hb hbox hg; obtain ⟨hcz10_0, hcz10_1, hcz10_2, hcz10_3, hfz10_0, hfz10_1, hfz10_2, -⟩ := c4 BKz0.out; have hfz10_3 := blk_frozen BKz0.out 3) | ((with_reducible refine gate_callee (f := 111) rfl ?_); refine goesL_ (some 18) rfl rfl Try.func111 (by kernel_rfl) rfl #[.int .i64 a3, .int .i64 a4, .int .i64 a0_2] rfl (by (try simp only [bitvec_to_nat]); rfl) ?_; (with_reducible refine (spec_newImage.calls a3 a4 a0_2 tz0 tz1 tz2 tz5 _ A6.out).mono ?_); rintro e w11 ⟨vz0, rfl, ho0, hb⟩; refine ⟨_, rfl, ?_⟩; have HOz2 := mk (Kd.R_lower ho0 (below_size HB.out)); replace BKz0 := mk (blk_below BKz0.out hb); replace BKz2 := mk (blk_below BKz2.out hb); replace HB := mk (below_step HB.out hb); (try clear hb); (try clear ho0)) | ((with_reducible refine gate_dst (N := 11) rfl ?_); refine box_event (by rfl) (N := 11) (by rfl) (cs := #[.int .i64 0, .int .i64 0, .int .i64 0, .slice none 0 0]) (t := 27) (by go_simp; done) ?_; intro gbz0 hg w12 hbox hb; replace HOz2 := mk (Kd.R_below HOz2.out hb); have BKz1 := mk (hbox); have GEz1 := mk ((by rw [hg]; exact (below_size HB.out) : w.heap.size ≤ gbz0)); replace HB := mk (below_step HB.out hb); have NBz0 := mk ((by rw [hg]; exact Nat.ne_of_lt (blk_lt BKz0.out) : gbz2 ≠ gbz0)); replace BKz0 := mk (blk_below BKz0.out hb); have NBz1 := mk ((by rw [hg]; exact Nat.ne_of_lt (blk_lt BKz2.out) : gbz1 ≠ gbz0)); replace BKz2 := mk (blk_below BKz2.out hb); clear hb hbox hg; obtain ⟨hcz15_0, hcz15_1, hcz15_2, hcz15_3, hfz15_0, hfz15_1, hfz15_2, hfz15_3⟩ := c4 BKz1.out; obtain ⟨Ao16, co16, eo16⟩ := Kd.R_slice HOz2.out; subst eo16))
 go_loopg [12] k (fun kq v12 w' => ∃ (x12_1 : Int) (xz1 : List Int) (aA : Value), v12 = .int .i64 x12_1 ∧ Aside0 (spec_crop.l0 kq a1 a2 a3 a4 x12_1 a0_0 a0_1 a0_2 l0_3 tz0 tz1 tz2 xz1 = some (r1, r2, r3, r4)) ∧ Aside0 (kq ≤ k) ∧ Aside0 (Kd.R (Kd.int .i64) 3 w' w.heap.size (fun _ => True) aA xz1) ∧ Aside0 (w'.heap[gbz2]? = some (.cells #[.int .i64 a0_0, .int .i64 a0_1, .int .i64 a0_2, (.slice A0_3 l0_3.length c0_3)] 27 (0, 0))) ∧ Aside0 (w'.heap[gbz1]? = some (.cells #[.int .i64 0, .int .i64 0, .int .i64 0, (.slice none 0 0)] 27 (0, 0))) ∧ Aside0 (w'.heap[gbz0]? = some (.cells #[.int .i64 tz0, .int .i64 tz1, .int .i64 tz2, aA] 27 (0, 0))) ∧ Aside0 (Below w.heap.size w w'))
 case atStart => exact ⟨(0), (tz5), (.slice Ao16 tz5.length co16), (by rfl), H', ⟨Nat.le_refl _⟩, ⟨by exact Kd.R_mono (Kd.R_far (p := ⟨gbz0, 3, none⟩) (Kd.R_far (p := ⟨gbz0, 2, none⟩) (Kd.R_far (p := ⟨gbz0, 1, none⟩) (Kd.R_far (p := ⟨gbz0, 0, none⟩) (Kd.R_types HOz2.out BKz1.out (by decide)) (fun _ hk => hk.2) (.int .i64 tz0)) (fun _ hk => hk.2) (.int .i64 tz1)) (fun _ hk => hk.2) (.int .i64 tz2)) (fun _ hk => hk.2) (.slice Ao16 tz5.length co16)) (fun _ hk => trivial)⟩, ⟨by refine blk_far ?_ NBz0.out _; refine blk_far ?_ NBz0.out _; refine blk_far ?_ NBz0.out _; refine blk_far ?_ NBz0.out _; exact BKz0.out⟩, ⟨by refine blk_far ?_ NBz1.out _; refine blk_far ?_ NBz1.out _; refine blk_far ?_ NBz1.out _; refine blk_far ?_ NBz1.out _; exact BKz2.out⟩, ⟨by refine blk_put (cs := #[.int .i64 tz0, .int .i64 tz1, .int .i64 tz2, .slice none 0 0]) ?_ 3 _ rfl; refine blk_put (cs := #[.int .i64 tz0, .int .i64 tz1, .int .i64 0, .slice none 0 0]) ?_ 2 _ rfl; refine blk_put (cs := #[.int .i64 tz0, .int .i64 0, .int .i64 0, .slice none 0 0]) ?_ 1 _ rfl; refine blk_put (cs := #[.int .i64 0, .int .i64 0, .int .i64 0, .slice none 0 0]) ?_ 0 _ rfl; exact BKz1.out⟩, ⟨by repeat (with_reducible first | exact HB.out | refine below_set ?_ GEz1.out)⟩⟩
 case round =>
  clear H'
  obtain ⟨x12_1, xz1, aA, rfl, HA, HK1, HOz0, BKz0, BKz2, BKz1, HB⟩ := hrel
  cases gk with
  | zero => exact absurd HA.out (by simp [spec_crop.l0])
  | succ k1 =>
   have H := HA.out
   clear HA
   simp only [spec_crop.l0] at H
   by_cases c17 : x12_1 < a4
   ·rw [if_pos c17] at H
    have c17b0 : decide (x12_1 < a4) = true := decide_eq_true c17
    clear c17
    have H' := mk H
    clear H
    go_wp2
    go_loopg [13] k1 (fun kq v13 w' => ∃ (x13_2 : Int) (xz0 : List Int) (aA : Value), v13 = .int .i64 x13_2 ∧ Aside0 (spec_crop.l1 kq a1 a2 a3 a4 x12_1 x13_2 a0_0 a0_1 a0_2 l0_3 tz0 tz1 tz2 xz0 = some (r1, r2, r3, r4)) ∧ Aside0 (kq ≤ k1) ∧ Aside0 (Kd.R (Kd.int .i64) 3 w' w.heap.size (fun _ => True) aA xz0) ∧ Aside0 (w'.heap[gbz2]? = some (.cells #[.int .i64 a0_0, .int .i64 a0_1, .int .i64 a0_2, (.slice A0_3 l0_3.length c0_3)] 27 (0, 0))) ∧ Aside0 (w'.heap[gbz1]? = some (.cells #[.int .i64 0, .int .i64 0, .int .i64 0, (.slice none 0 0)] 27 (0, 0))) ∧ Aside0 (w'.heap[gbz0]? = some (.cells #[.int .i64 tz0, .int .i64 tz1, .int .i64 tz2, aA] 27 (0, 0))) ∧ Aside0 (Below w.heap.size w w'))
    case atStart => exact ⟨(0), (xz1), (aA), (by rfl), H', ⟨Nat.le_refl _⟩, HOz0, BKz0, BKz2, BKz1, HB⟩
    case round =>
     clear H'
     obtain ⟨x13_2, xz0, aA, rfl, HA, HK2, HOz0, BKz0, BKz2, BKz1, HB⟩ := hrel
     cases gk with
     | zero => exact absurd HA.out (by simp [spec_crop.l1])
     | succ k2 =>
      have H := HA.out
      clear HA
      simp only [spec_crop.l1] at H
      by_cases c18 : x13_2 < a3
      ·rw [if_pos c18] at H
       have c18b0 : decide (x13_2 < a3) = true := decide_eq_true c18
       clear c18
       replace H := Option.bind_eq_some_iff.mp H
       obtain ⟨tz4, A190, H⟩ := H
       replace H : ((spec_setPixel.f k2 tz0 tz1 tz2 xz0 x13_2 x12_1 tz4).bind fun tz3 => (spec_crop.l1 k2 a1 a2 a3 a4 x12_1 (wrap64 (x13_2 + 1)) a0_0 a0_1 a0_2 l0_3 tz0 tz1 tz2 tz3)) = some (r1, r2, r3, r4) := H
       have A19 := mk A190
       clear A190
       replace H := Option.bind_eq_some_iff.mp H
       obtain ⟨tz3, A200, H⟩ := H
       replace H : (spec_crop.l1 k2 a1 a2 a3 a4 x12_1 (wrap64 (x13_2 + 1)) a0_0 a0_1 a0_2 l0_3 tz0 tz1 tz2 tz3) = some (r1, r2, r3, r4) := H
       have A20 := mk A200
       clear A200
       have H' := mk H
       clear H
       try go_wp2
       replace HOz0 := mk (Kd.R_drew HOz0.out)
       replace BKz0 := mk (blk_drew BKz0.out)
       replace BKz2 := mk (blk_drew BKz2.out)
       replace BKz1 := mk (blk_drew BKz1.out)
       replace HB := mk (below_drew1 HB.out)
       refine start_ (n := 12) (S := fun w' => w'.cell? ⟨gbz0, 0, none⟩ = some (.int .i64 tz0) ∧ w'.cell? ⟨gbz0, 1, none⟩ = some (.int .i64 tz1) ∧ w'.cell? ⟨gbz0, 2, none⟩ = some (.int .i64 tz2) ∧ w'.cell? ⟨gbz0, 3, none⟩ = some aA ∧ w'.cell? ⟨gbz2, 0, none⟩ = some (.int .i64 a0_0) ∧ w'.cell? ⟨gbz2, 1, none⟩ = some (.int .i64 a0_1) ∧ w'.cell? ⟨gbz2, 2, none⟩ = some (.int .i64 a0_2) ∧ w'.cell? ⟨gbz2, 3, none⟩ = some (.slice A0_3 l0_3.length c0_3)) (ds := []) #[false, false, false, false, false, false, false, false, false, false, false, false] (by kernel_rfl) rfl rfl ⟨blk_cell BKz1.out 0, blk_cell BKz1.out 1, blk_cell BKz1.out 2, blk_cell BKz1.out 3, blk_cell BKz0.out 0, blk_cell BKz0.out 1, blk_cell BKz0.out 2, blk_cell BKz0.out 3⟩ (fun hHeld => ?_); refine with_tabW spec_crop.tab8 spec_crop.bits8 (fun HT_ HW_ => ?_)
       generalize wr.drew = w21 at HOz0 BKz0 BKz2 BKz1 HB hHeld ⊢
       refine pu 1 30 ?_ ?_ rfl rfl (any_of HT_.out (by kernel_rfl)) (Or.inl ⟨by rfl, ?_⟩) ?_ ?_
       rotate_left 2
       ·intro w'
        go_simp
        with_reducible rfl
       ·simp only [seval]
        rfl
       refine pu 2 31 ?_ ?_ rfl rfl (any_of HT_.out (by kernel_rfl)) (Or.inl ⟨by rfl, ?_⟩) ?_ ?_
       rotate_left 2
       ·intro w'
        go_simp
        with_reducible rfl
       ·simp only [seval]
        rfl
       refine pu 4 33 ?_ ?_ rfl rfl (any_of HT_.out (by kernel_rfl)) (Or.inl ⟨by rfl, ?_⟩) ?_ ?_
       rotate_left 2
       ·intro w'
        go_simp
        with_reducible rfl
       ·simp only [seval]
        rfl
       refine pu 5 34 ?_ ?_ rfl rfl (any_of HT_.out (by kernel_rfl)) (Or.inl ⟨by rfl, ?_⟩) ?_ ?_
       rotate_left 2
       ·intro w'
        go_simp
        with_reducible rfl
       ·simp only [seval]
        rfl
       refine pu 6 35 ?_ ?_ rfl rfl (any_of HT_.out (by kernel_rfl)) (Or.inl ⟨by rfl, ?_⟩) ?_ ?_
       rotate_left 2
       ·intro w'
        go_simp
        with_reducible rfl
       ·simp only [seval]
        rfl
       refine pu 7 36 ?_ ?_ rfl rfl (any_of HT_.out (by kernel_rfl)) (Or.inl ⟨by rfl, ?_⟩) ?_ ?_
       rotate_left 2
       ·intro w'
        go_simp
        with_reducible rfl
       ·simp only [seval]
        rfl
       refine pu 8 37 ?_ ?_ rfl rfl (any_of HT_.out (by kernel_rfl)) (Or.inl ⟨by rfl, ?_⟩) ?_ ?_
       rotate_left 2
       ·intro w'
        go_simp
        with_reducible rfl
       ·simp only [seval]
        rfl
       refine pu 9 38 ?_ ?_ rfl rfl (any_of HT_.out (by kernel_rfl)) (Or.inl ⟨by rfl, ?_⟩) ?_ ?_
       rotate_left 2
       ·intro w'
        go_simp
        with_reducible rfl
       ·simp only [seval]
        rfl
       refine tk 0 29 ?_ ?_ rfl rfl (take_ofW HT_.out HW_.out (by kernel_rfl)) (Or.inl ⟨by rfl, ?_⟩) hHeld ?_ ?_
       rotate_left 2
       ·rintro w' ⟨s0, s1, s2, s3, s4, s5, s6, s7⟩
        go_simp
        with_reducible rfl
       ·simp only [seval]
        rfl
       refine tk 3 32 ?_ ?_ rfl rfl (take_ofW HT_.out HW_.out (by kernel_rfl)) (Or.inl ⟨by rfl, ?_⟩) hHeld ?_ ?_
       rotate_left 2
       ·rintro w' ⟨s0, s1, s2, s3, s4, s5, s6, s7⟩
        go_simp
        with_reducible rfl
       ·simp only [seval]
        rfl
       refine one_ (i := 10) (N := some 39) #[true, true, true, true, true, true, true, true, true, true, true, false] rfl rfl (one_of HT_.out (by kernel_rfl)) (by decide) (fun K hK => ?_)
       refine goes_ Try.func149 (by kernel_rfl) rfl #[.agg #[.int .i64 a0_0, .int .i64 a0_1, .int .i64 a0_2, .slice A0_3 l0_3.length c0_3], .int .i64 (wrap64 (a1 + x13_2)), .int .i64 (wrap64 (a2 + x12_1))] (by rfl) rfl rfl (by (try simp only [bitvec_to_nat]); rfl) ?_
       with_reducible refine (spec_pixelAt.calls a0_0 a0_1 a0_2 _ _ l0_3 (wrap64 (a1 + x13_2)) (wrap64 (a2 + x12_1)) tz4 _ ?side1 ?side2 A19.out).mono ?_
       (case side1 => repeat (exact (Kd.C_below HR0_3.out HB.out)))
       (case side2 => exact HC0_3.out)
       rintro e w22 ⟨vz1, rfl, ho0, hb⟩
       refine ⟨_, rfl, ?_⟩
       have HOz1 := mk (Kd.R_lower (Kd.R_new' ho0 (Kd.R_lt HOz0.out)) (below_size HB.out))
       replace HOz0 := mk (Kd.R_elder' HOz0.out (Kd.R_base ho0) hb)
       replace BKz0 := mk (blk_below BKz0.out hb)
       replace BKz2 := mk (blk_below BKz2.out hb)
       replace BKz1 := mk (blk_below BKz1.out hb)
       replace HB := mk (below_step HB.out hb)
       (try clear hb)
       (try clear ho0)
       obtain ⟨Ao23, co23, eo23⟩ := Kd.R_slice HOz0.out
       (subst eo23)
       obtain ⟨Ao24, co24, eo24⟩ := Kd.R_slice HOz1.out
       (subst eo24)
       refine hK.out _ _ ⟨blk_cell BKz1.out 0, blk_cell BKz1.out 1, blk_cell BKz1.out 2, blk_cell BKz1.out 3, blk_cell BKz0.out 0, blk_cell BKz0.out 1, blk_cell BKz0.out 2, blk_cell BKz0.out 3⟩ (fun hHeld => ?_)
       clear hK K
       refine norm_ (a' := ?_) ?_ ?_
       rotate_left
       ·show Act.put _ (some 39) _ = _
        simp only [seval]
        rfl
       refine one_ (i := 11) (N := some 40) #[true, true, true, true, true, true, true, true, true, true, true, true] rfl rfl (one_of HT_.out (by kernel_rfl)) (by decide) (fun K hK => ?_)
       refine goes_ Try.func148 (by kernel_rfl) rfl #[.agg #[.int .i64 tz0, .int .i64 tz1, .int .i64 tz2, .slice Ao23 xz0.length co23], .int .i64 x13_2, .int .i64 x12_1, .slice Ao24 tz4.length co24] (by rfl) rfl rfl (by (try simp only [bitvec_to_nat]); rfl) ?_
       with_reducible refine (spec_setPixel.calls k2 tz0 tz1 tz2 (fun k_ => some k_ = (.slice Ao23 xz0.length co23 : Value).ownBlock) (.slice Ao23 xz0.length co23) xz0 x13_2 x12_1 _ _ tz4 tz3 w _ ?side1 ?side2 ?side3 ?side4 A20.out).mono ?_
       (case side1 => repeat (with_reducible exact HB.out))
       (case side2 => exact Kd.R_tight rfl HOz0.out)
       (case side3 => exact Kd.C_kept_own HOz1.out (fun k_ hk_ hs_ => hk_.2 hs_))
       (case side4 => exact (Kd.R_reads' HOz1.out).2.1)
       rintro e w25 ⟨rfl, hy0, hb, hkp⟩
       refine ⟨_, rfl, ?_⟩
       replace BKz0 := mk (blk_kept BKz0.out hkp (fun hs_ => (fun e_ => (Kd.R_ne HOz0.out BKz0.out (by decide)) e_) hs_))
       replace BKz2 := mk (blk_kept BKz2.out hkp (fun hs_ => (fun e_ => (Kd.R_ne HOz0.out BKz2.out (by decide)) e_) hs_))
       replace BKz1 := mk (blk_kept BKz1.out hkp (fun hs_ => (fun e_ => (Kd.R_ne HOz0.out BKz1.out (by decide)) e_) hs_))
       replace HOz0 := mk (Kd.R_reok rfl hy0 (fun k_ e_ => HOz0.out.1 k_ e_))
       replace HOz1 := mk (Kd.R_mono (ok' := fun k_ => some k_ ≠ (.slice Ao23 xz0.length co23 : Value).ownBlock) (Kd.R_keptB HOz1.out hkp (fun k_ hk_ hs_ => hk_.2 hs_)) (fun k_ hk_ => hk_.1.2))
       replace HB := mk (hb)
       (try clear hb)
       (try clear hkp)
       (try clear hy0)
       refine hK.out _ _ ⟨blk_cell BKz1.out 0, blk_cell BKz1.out 1, blk_cell BKz1.out 2, blk_cell BKz1.out 3, blk_cell BKz0.out 0, blk_cell BKz0.out 1, blk_cell BKz0.out 2, blk_cell BKz0.out 3⟩ (fun hHeld => ?_)
       clear hK K
       refine norm_ (a' := ?_) ?_ ?_
       rotate_left
       ·show Act.put _ (some 40) _ = _
        simp only [seval]
        rfl
       refine done_ (done_of HT_.out (by kernel_rfl)) ?_
       try go_wp2
       go_roundg k2
       case measure => have := HK1.out; have := HK2.out; omega
       case rel => exact ⟨(wrap64 (x13_2 + 1)), (tz3), (.slice Ao23 xz0.length co23), (by rfl), H', ⟨by have := HK1.out; have := HK2.out; omega⟩, ⟨by exact Kd.R_mono HOz0.out (fun _ hk => trivial)⟩, BKz0, BKz2, BKz1, HB⟩
      rw [if_neg c18] at H
      have c18b0 : decide (x13_2 < a3) = false := decide_eq_false c18
      clear c18
      have H' := mk H
      clear H
      go_wp2
      go_roundg k2
      case measure => have := HK1.out; have := HK2.out; omega
      case rel => exact ⟨(wrap64 (x12_1 + 1)), (xz0), (aA), (by rfl), H', ⟨by have := HK1.out; have := HK2.out; omega⟩, HOz0, BKz0, BKz2, BKz1, HB⟩
   rw [if_neg c17] at H
   have c17b0 : decide (x12_1 < a4) = false := decide_eq_false c17
   clear c17
   simp only [Option.some.injEq, Prod.mk.injEq] at H
   obtain ⟨rfl, rfl, rfl, rfl⟩ := H
   obtain ⟨hcz28_0, hcz28_1, hcz28_2, -⟩ := c4 BKz1.out
   have hcz28_3 : wr.cell? ⟨gbz0, 3, none⟩ = some aA := (blk_cell BKz1.out 3).trans rfl
   obtain ⟨hcz30_0, hcz30_1, hcz30_2, hcz30_3, hfz30_0, hfz30_1, hfz30_2, hfz30_3⟩ := c4 BKz2.out
   obtain ⟨Ao31, co31, eo31⟩ := Kd.R_slice HOz0.out
   subst eo31
   go_wp2
   refine bodyPost_ret (results_cell_row rfl _ _ gbz1 27 #[.int .i64 tz0, .int .i64 tz1, .int .i64 tz2, .slice Ao31 xz1.length co31] (0, 0) _ rfl (by refine blk_put (cs := #[.int .i64 tz0, .int .i64 tz1, .int .i64 tz2, .slice none 0 0]) ?_ 3 _ rfl; refine blk_put (cs := #[.int .i64 tz0, .int .i64 tz1, .int .i64 0, .slice none 0 0]) ?_ 2 _ rfl; refine blk_put (cs := #[.int .i64 tz0, .int .i64 0, .int .i64 0, .slice none 0 0]) ?_ 1 _ rfl; refine blk_put (cs := #[.int .i64 0, .int .i64 0, .int .i64 0, .slice none 0 0]) ?_ 0 _ rfl; exact BKz2.out) Try.underlying27 rfl (by kernel_rfl)) rfl ?_
   exact ⟨_, by rfl, by exact Kd.R_mono (Kd.R_far (p := ⟨gbz1, 3, none⟩) (Kd.R_far (p := ⟨gbz1, 2, none⟩) (Kd.R_far (p := ⟨gbz1, 1, none⟩) (Kd.R_far (p := ⟨gbz1, 0, none⟩) (Kd.R_types HOz0.out BKz2.out (by decide)) (fun _ hk => hk.2) (.int .i64 tz0)) (fun _ hk => hk.2) (.int .i64 tz1)) (fun _ hk => hk.2) (.int .i64 tz2)) (fun _ hk => hk.2) (.slice Ao31 xz1.length co31)) (fun _ hk => trivial), by repeat (with_reducible first | exact HB.out | refine below_set ?_ GEz0.out)⟩


mutual
def spec_RedrawTiles.j0 : Nat → List Int → Bool → Int → Int → Int → List Int → Int → Int → Int → List Int → Int → Int → Int → List Int → Option (Int × Int × Int × List Int × Bool)
 | 0, _, _, _, _, _, _, _, _, _, _, _, _, _, _ => none
 | k + 1, x3, x48, xz17, xz18, xz19, xz20, xz5, xz6, xz7, xz8, xz9, xz10, xz11, xz12 => if x48 = true then (some (0, 0, 0, ([] : List Int), false)) else ((spec_copyImage.f xz17 xz18 xz19 xz20).bind fun btz3 => (spec_RedrawTiles.l0 k x3 0 xz5 xz6 xz7 xz8 xz9 xz10 xz11 xz12 btz3.1 btz3.2.1 btz3.2.2.1 btz3.2.2.2))
def spec_RedrawTiles.l0 : Nat → List Int → Int → Int → Int → Int → List Int → Int → Int → Int → List Int → Int → Int → Int → List Int → Option (Int × Int × Int × List Int × Bool)
 | 0, _, _, _, _, _, _, _, _, _, _, _, _, _, _ => none
 | k + 1, x3, x13, xz5, xz6, xz7, xz8, xz9, xz10, xz11, xz12, xz13, xz14, xz15, xz16 => if x13 < (x3.length : Int) then (if 0 ≤ x13 then ((spec_tileCount.f xz5 xz6 xz7 xz8).bind fun tz11 => ((spec_inRange.f (rd x3 x13) 0 (wrap64 (tz11 - 1))).bind fun tz14 => (if tz14 = true then (if x13 > 0 then (if 0 ≤ (wrap64 (x13 - 1)) then (if (wrap64 (x13 - 1)) < (x3.length : Int) then (spec_RedrawTiles.j2 k x3 x13 (decide ((rd x3 x13) ≤ (rd x3 (wrap64 (x13 - 1))))) xz5 xz6 xz7 xz8 xz9 xz10 xz11 xz12 xz13 xz14 xz15 xz16) else none) else none) else (spec_RedrawTiles.j2 k x3 x13 false xz5 xz6 xz7 xz8 xz9 xz10 xz11 xz12 xz13 xz14 xz15 xz16)) else (spec_RedrawTiles.j2 k x3 x13 true xz5 xz6 xz7 xz8 xz9 xz10 xz11 xz12 xz13 xz14 xz15 xz16)))) else none) else (some (xz13, xz14, xz15, xz16, true))
def spec_RedrawTiles.j2 : Nat → List Int → Int → Bool → Int → Int → Int → List Int → Int → Int → Int → List Int → Int → Int → Int → List Int → Option (Int × Int × Int × List Int × Bool)
 | 0, _, _, _, _, _, _, _, _, _, _, _, _, _, _, _ => none
 | k + 1, x3, x13, x82, xz5, xz6, xz7, xz8, xz9, xz10, xz11, xz12, xz13, xz14, xz15, xz16 => if x82 = true then (some (0, 0, 0, ([] : List Int), false)) else (if 0 ≤ x13 then (if x13 < (x3.length : Int) then ((spec_tileBox.f xz5 xz6 xz7 xz8 (rd x3 x13)).bind fun btz2 => ((spec_crop.f k xz9 xz10 xz11 xz12 btz2.1 btz2.2.1 btz2.2.2.1 btz2.2.2.2).bind fun btz1 => ((spec_paste.f k xz13 xz14 xz15 xz16 btz2.1 btz2.2.1 btz1.1 btz1.2.1 btz1.2.2.1 btz1.2.2.2).bind fun tz12 => (spec_RedrawTiles.l0 k x3 (wrap64 (x13 + 1)) xz5 xz6 xz7 xz8 xz9 xz10 xz11 xz12 xz13 xz14 xz15 tz12)))) else none) else none)
end
def spec_RedrawTiles.f (k : Nat) (a0_0 : Int) (a0_1 : Int) (a0_2 : Int) (l0_3 : List Int) (a1_0 : Int) (a1_1 : Int) (a1_2 : Int) (l1_3 : List Int) (l2 : List S55) (l3 : List Int) : Option (Int × Int × Int × List Int × Bool) := (spec_FlattenLayers.f k a1_0 a1_1 a1_2 l1_3 l2).bind fun btz0 => (if btz0.2.2.2.2 = true then ((spec_validImage.f k a0_0 a0_1 a0_2 l0_3).bind fun tz13 => (if tz13 = true then (if a0_0 = a1_0 then (if a0_1 = a1_1 then (spec_RedrawTiles.j0 k l3 (a0_2 != a1_2) a0_0 a0_1 a0_2 l0_3 a1_0 a1_1 a1_2 l1_3 btz0.1 btz0.2.1 btz0.2.2.1 btz0.2.2.2.1) else (spec_RedrawTiles.j0 k l3 true a0_0 a0_1 a0_2 l0_3 a1_0 a1_1 a1_2 l1_3 btz0.1 btz0.2.1 btz0.2.2.1 btz0.2.2.2.1)) else (spec_RedrawTiles.j0 k l3 true a0_0 a0_1 a0_2 l0_3 a1_0 a1_1 a1_2 l1_3 btz0.1 btz0.2.1 btz0.2.2.1 btz0.2.2.2.1)) else (spec_RedrawTiles.j0 k l3 true a0_0 a0_1 a0_2 l0_3 a1_0 a1_1 a1_2 l1_3 btz0.1 btz0.2.1 btz0.2.2.1 btz0.2.2.2.1))) else (spec_RedrawTiles.j0 k l3 true a0_0 a0_1 a0_2 l0_3 a1_0 a1_1 a1_2 l1_3 btz0.1 btz0.2.1 btz0.2.2.1 btz0.2.2.2.1))
def spec_RedrawTiles.T8 : Bool × List (List Nat × List Nat) := (true, [([], []), ([], []), ([0, 1], [0, 1]), ([2], [2]), ([], []), ([4], [4]), ([5], [5]), ([3, 6, 5], [3, 6]), ([7], [7]), ([8, 7], [8]), ([9], [9]), ([10, 9], [9, 10]), ([11, 9, 9], [9, 11]), ([12], [12]), ([12], [12]), ([13, 14, 12], [12, 13, 14]), ([15, 12], [12, 15]), ([12], [12]), ([12], [12]), ([18, 12], [12, 18]), ([17, 19, 12], [12, 17, 19]), ([20, 12], [12, 20]), ([16, 21, 12], [12, 16, 21]), ([12, 22, 9], [9, 12, 22]), ([9, 23], [9, 23])])
def spec_RedrawTiles.B8 : List Nat := [0, 0, 3, 7, 0, 16, 48, 127, 255, 511, 1023, 2047, 4095, 8191, 8191, 32767, 65535, 8191, 8191, 270335, 925695, 1974271, 4194303, 8388607, 16777215]
theorem spec_RedrawTiles.tab8 : rtab .any (opsOf Try.f76 8) = spec_RedrawTiles.T8 := by kernel_rfl
theorem spec_RedrawTiles.bits8 : waitsOk spec_RedrawTiles.T8.2 spec_RedrawTiles.B8 = true := by kernel_rfl
def spec_RedrawTiles.T10 : Bool × List (List Nat × List Nat) := (true, [([], []), ([], []), ([], []), ([1, 2], [1, 2]), ([3], [3]), ([0, 4], [0, 4]), ([], []), ([6, 5, 5, 0, 1, 2, 3, 4, 5, 6], [5, 6])])
def spec_RedrawTiles.B10 : List Nat := [0, 0, 0, 6, 14, 31, 0, 127]
theorem spec_RedrawTiles.tab10 : rtab .any (opsOf Try.f76 10) = spec_RedrawTiles.T10 := by kernel_rfl
theorem spec_RedrawTiles.bits10 : waitsOk spec_RedrawTiles.T10.2 spec_RedrawTiles.B10 = true := by kernel_rfl
def spec_RedrawTiles.T11 : Bool × List (List Nat × List Nat) := (true, [([], []), ([], []), ([1], [1]), ([], []), ([3], [3]), ([], []), ([], []), ([6], [6]), ([], []), ([8], [8]), ([], []), ([10], [10]), ([], []), ([12], [12]), ([5, 7, 9, 11, 13], [5, 7, 9, 11, 13]), ([0, 2, 4, 14, 14], [0, 2, 4, 14])])
def spec_RedrawTiles.B11 : List Nat := [0, 0, 2, 0, 8, 0, 0, 64, 0, 256, 0, 1024, 0, 4096, 16352, 32767]
theorem spec_RedrawTiles.tab11 : rtab .any (opsOf Try.f76 11) = spec_RedrawTiles.T11 := by kernel_rfl
theorem spec_RedrawTiles.bits11 : waitsOk spec_RedrawTiles.T11.2 spec_RedrawTiles.B11 = true := by kernel_rfl
theorem spec_RedrawTiles.calls (k : Nat) (a0_0 : Int) (a0_1 : Int) (a0_2 : Int) (A0_3 : Option Addr) (c0_3 : Nat) (l0_3 : List Int) (a1_0 : Int) (a1_1 : Int) (a1_2 : Int) (A1_3 : Option Addr) (c1_3 : Nat) (l1_3 : List Int) (A2 : Option Addr) (c2 : Nat) (l2 : List S55) (A3 : Option Addr) (c3 : Nat) (l3 : List Int) (r1 : Int) (r2 : Int) (r3 : Int) (r4 : List Int) (r5 : Bool) (w : World) (hr0_3 : Kd.C (Kd.int .i64) w A0_3 l0_3.length l0_3) (hc0_3 : l0_3.length ≤ c0_3) (hr1_3 : Kd.C (Kd.int .i64) w A1_3 l1_3.length l1_3) (hc1_3 : l1_3.length ≤ c1_3) (hr2 : Kd.C k55 w A2 l2.length l2) (hc2 : l2.length ≤ c2) (hr3 : Kd.C (Kd.int .i64) w A3 l3.length l3) (hc3 : l3.length ≤ c3) (h : spec_RedrawTiles.f k a0_0 a0_1 a0_2 l0_3 a1_0 a1_1 a1_2 l1_3 l2 l3 = some (r1, r2, r3, r4, r5)) :
  Calls Try.prog 76 #[.agg #[.int .i64 a0_0, .int .i64 a0_1, .int .i64 a0_2, .slice A0_3 l0_3.length c0_3], .agg #[.int .i64 a1_0, .int .i64 a1_1, .int .i64 a1_2, .slice A1_3 l1_3.length c1_3], .slice A2 l2.length c2, .slice A3 l3.length c3] w fun e w' => ∃ v3_ : Value, e = .returned (.tuple #[.agg #[.int .i64 r1, .int .i64 r2, .int .i64 r3, v3_], .bool r5]) ∧ Kd.R (Kd.int .i64) 3 w' w.heap.size (fun _ => True) v3_ r4 ∧ Below w.heap.size w w' := by
 have hu27 := Try.underlying27
 have hu47 := Try.underlying47
 have HR0_3 := mk hr0_3
 have HC0_3 := mk hc0_3
 clear hr0_3 hc0_3
 have HR1_3 := mk hr1_3
 have HC1_3 := mk hc1_3
 clear hr1_3 hc1_3
 have HR2 := mk hr2
 have HC2 := mk hc2
 clear hr2 hc2
 have HR3 := mk hr3
 have HC3 := mk hc3
 clear hr3 hc3
 have HB := mk (Below.refl w.heap.size w)
 have H : ((spec_FlattenLayers.f k a1_0 a1_1 a1_2 l1_3 l2).bind fun btz0 => (if btz0.2.2.2.2 = true then ((spec_validImage.f k a0_0 a0_1 a0_2 l0_3).bind fun tz13 => (if tz13 = true then (if a0_0 = a1_0 then (if a0_1 = a1_1 then (spec_RedrawTiles.j0 k l3 (a0_2 != a1_2) a0_0 a0_1 a0_2 l0_3 a1_0 a1_1 a1_2 l1_3 btz0.1 btz0.2.1 btz0.2.2.1 btz0.2.2.2.1) else (spec_RedrawTiles.j0 k l3 true a0_0 a0_1 a0_2 l0_3 a1_0 a1_1 a1_2 l1_3 btz0.1 btz0.2.1 btz0.2.2.1 btz0.2.2.2.1)) else (spec_RedrawTiles.j0 k l3 true a0_0 a0_1 a0_2 l0_3 a1_0 a1_1 a1_2 l1_3 btz0.1 btz0.2.1 btz0.2.2.1 btz0.2.2.2.1)) else (spec_RedrawTiles.j0 k l3 true a0_0 a0_1 a0_2 l0_3 a1_0 a1_1 a1_2 l1_3 btz0.1 btz0.2.1 btz0.2.2.1 btz0.2.2.2.1))) else (spec_RedrawTiles.j0 k l3 true a0_0 a0_1 a0_2 l0_3 a1_0 a1_1 a1_2 l1_3 btz0.1 btz0.2.1 btz0.2.2.1 btz0.2.2.2.1))) = some (r1, r2, r3, r4, r5) := h
 clear h
 replace H := Option.bind_eq_some_iff.mp H
 obtain ⟨⟨tz0, tz1, tz2, tz5, tz20⟩, A50, H⟩ := H
 dsimp only at H
 have A5 := mk A50
 clear A50
 have HC6 := mk H
 clear H
 go_enter Try.func76, Try.ntmps76
 go_upto_region 2 with (first | ((with_reducible refine gate_dst (N := 4) rfl ?_); refine box_event (by rfl) (N := 4) (by rfl) (cs := #[.int .i64 a0_0, .int .i64 a0_1, .int .i64 a0_2, .slice A0_3 l0_3.length c0_3]) (t := 27) (by go_simp; done) ?_; intro gbz3 hg w7 hbox hb; replace HB := mk (below_step HB.out hb); have BKz1 := mk (hbox); clear hb hbox hg) | ((with_reducible refine gate_dst (N := 5) rfl ?_); refine box_event (by rfl) (N := 5) (by rfl) (cs := #[.int .i64 a1_0, .int .i64 a1_1, .int .i64 a1_2, .slice A1_3 l1_3.length c1_3]) (t := 27) (by go_simp; done) ?_; intro gbz1 hg w8 hbox hb; replace BKz1 := mk (blk_below BKz1.out hb); replace HB := mk (below_step HB.out hb); have BKz0 := mk (hbox); clear hb hbox hg) | ((with_reducible refine gate_dst (N := 8) rfl ?_); refine box_event (by rfl) (N := 8) (by rfl) (cs := #[.int .i64 0, .int .i64 0, .int .i64 0, .slice none 0 0]) (t := 27) (by go_simp; done) ?_; intro gbz4 hg w9 hbox hb; replace BKz1 := mk (blk_below BKz1.out hb); replace BKz0 := mk (blk_below BKz0.out hb); have BKz2 := mk (hbox); have GEz2 := mk ((by rw [hg]; exact (below_size HB.out) : w.heap.size ≤ gbz4)); replace HB := mk (below_step HB.out hb); clear hb hbox hg; obtain ⟨hcz12_0, hcz12_1, hcz12_2, hcz12_3, hfz12_0, hfz12_1, hfz12_2, -⟩ := c4 BKz0.out; have hfz12_3 := blk_frozen BKz0.out 3) | ((with_reducible refine gate_callee (f := 65) rfl ?_); refine goesL_ (some 18) rfl rfl Try.func65 (by kernel_rfl) rfl #[.agg #[.int .i64 a1_0, .int .i64 a1_1, .int .i64 a1_2, .slice A1_3 l1_3.length c1_3], .slice A2 l2.length c2] rfl (by (try simp only [bitvec_to_nat]); rfl) ?_; (with_reducible refine (spec_FlattenLayers.calls k a1_0 a1_1 a1_2 _ _ l1_3 _ _ l2 tz0 tz1 tz2 tz5 tz20 _ ?side1 ?side2 ?side3 ?side4 A5.out).mono ?_); (case side1 => repeat (exact (Kd.C_below HR1_3.out HB.out))); (case side2 => exact HC1_3.out); (case side3 => repeat (exact (Kd.C_below HR2.out HB.out))); (case side4 => exact HC2.out); rintro e w13 ⟨vz0, rfl, ho0, hb⟩; refine ⟨_, rfl, ?_⟩; have HOz2 := mk (Kd.R_lower ho0 (below_size HB.out)); replace BKz1 := mk (blk_below BKz1.out hb); replace BKz0 := mk (blk_below BKz0.out hb); replace BKz2 := mk (blk_below BKz2.out hb); replace HB := mk (below_step HB.out hb)) | ((with_reducible refine gate_dst (N := 10) rfl ?_); refine box_event (by rfl) (N := 10) (by rfl) (cs := #[.int .i64 0, .int .i64 0, .int .i64 0, .slice none 0 0]) (t := 27) (by go_simp; done) ?_; intro gbz2 hg w14 hbox hb; replace HOz2 := mk (Kd.R_below HOz2.out hb); have BKz3 := mk (hbox); have GEz0 := mk ((by rw [hg]; exact (below_size HB.out) : w.heap.size ≤ gbz2)); replace HB := mk (below_step HB.out hb); have NBz1 := mk ((by rw [hg]; exact Nat.ne_of_lt (blk_lt BKz1.out) : gbz3 ≠ gbz2)); have NBz13 := mk ((by rw [hg]; exact Nat.ne_of_gt (blk_lt BKz1.out) : gbz2 ≠ gbz3)); replace BKz1 := mk (blk_below BKz1.out hb); have NBz2 := mk ((by rw [hg]; exact Nat.ne_of_lt (blk_lt BKz0.out) : gbz1 ≠ gbz2)); replace BKz0 := mk (blk_below BKz0.out hb); have NBz3 := mk ((by rw [hg]; exact Nat.ne_of_lt (blk_lt BKz2.out) : gbz4 ≠ gbz2)); replace BKz2 := mk (blk_below BKz2.out hb); clear hb hbox hg; obtain ⟨hcz18_0, hcz18_1, hcz18_2, hcz18_3, hfz18_0, hfz18_1, hfz18_2, hfz18_3⟩ := c4 BKz3.out; obtain ⟨Ao19, co19, eo19⟩ := Kd.R_slice HOz2.out; subst eo19))
 go_cut [48] (fun v48 wc => ∃ (kq : Nat) (x48_5 : Bool), v48 = .bool x48_5 ∧ Aside0 (spec_RedrawTiles.j0 kq l3 x48_5 a0_0 a0_1 a0_2 l0_3 a1_0 a1_1 a1_2 l1_3 tz0 tz1 tz2 tz5 = some (r1, r2, r3, r4, r5)) ∧ Aside0 (kq ≤ k) ∧ Aside0 (Kd.R (Kd.int .i64) 3 wc w.heap.size (fun _ => True) (.slice Ao19 tz5.length co19) tz5) ∧ Aside0 (wc.heap[gbz3]? = some (.cells #[.int .i64 a0_0, .int .i64 a0_1, .int .i64 a0_2, (.slice A0_3 l0_3.length c0_3)] 27 (0, 0))) ∧ Aside0 (wc.heap[gbz1]? = some (.cells #[.int .i64 a1_0, .int .i64 a1_1, .int .i64 a1_2, (.slice A1_3 l1_3.length c1_3)] 27 (0, 0))) ∧ Aside0 (wc.heap[gbz4]? = some (.cells #[.int .i64 0, .int .i64 0, .int .i64 0, (.slice none 0 0)] 27 (0, 0))) ∧ Aside0 (wc.heap[gbz2]? = some (.cells #[.int .i64 tz0, .int .i64 tz1, .int .i64 tz2, (.slice Ao19 tz5.length co19)] 27 (0, 0))) ∧ Aside0 (Below w.heap.size w wc))
 case first =>
  have H := HC6.out
  clear HC6
  by_cases c20 : tz20 = true
  ·subst c20
   have H1 : ((spec_validImage.f k a0_0 a0_1 a0_2 l0_3).bind fun tz13 => (if tz13 = true then (if a0_0 = a1_0 then (if a0_1 = a1_1 then (spec_RedrawTiles.j0 k l3 (a0_2 != a1_2) a0_0 a0_1 a0_2 l0_3 a1_0 a1_1 a1_2 l1_3 tz0 tz1 tz2 tz5) else (spec_RedrawTiles.j0 k l3 true a0_0 a0_1 a0_2 l0_3 a1_0 a1_1 a1_2 l1_3 tz0 tz1 tz2 tz5)) else (spec_RedrawTiles.j0 k l3 true a0_0 a0_1 a0_2 l0_3 a1_0 a1_1 a1_2 l1_3 tz0 tz1 tz2 tz5)) else (spec_RedrawTiles.j0 k l3 true a0_0 a0_1 a0_2 l0_3 a1_0 a1_1 a1_2 l1_3 tz0 tz1 tz2 tz5))) = some (r1, r2, r3, r4, r5) := by rw [if_pos rfl] at H; exact H
   clear H
   have H := H1
   clear H1
   replace H := Option.bind_eq_some_iff.mp H
   obtain ⟨tz13, A210, H⟩ := H
   replace H : (if tz13 = true then (if a0_0 = a1_0 then (if a0_1 = a1_1 then (spec_RedrawTiles.j0 k l3 (a0_2 != a1_2) a0_0 a0_1 a0_2 l0_3 a1_0 a1_1 a1_2 l1_3 tz0 tz1 tz2 tz5) else (spec_RedrawTiles.j0 k l3 true a0_0 a0_1 a0_2 l0_3 a1_0 a1_1 a1_2 l1_3 tz0 tz1 tz2 tz5)) else (spec_RedrawTiles.j0 k l3 true a0_0 a0_1 a0_2 l0_3 a1_0 a1_1 a1_2 l1_3 tz0 tz1 tz2 tz5)) else (spec_RedrawTiles.j0 k l3 true a0_0 a0_1 a0_2 l0_3 a1_0 a1_1 a1_2 l1_3 tz0 tz1 tz2 tz5)) = some (r1, r2, r3, r4, r5) := H
   have A21 := mk A210
   clear A210
   by_cases c22 : tz13 = true
   ·subst c22
    have H1 : (if a0_0 = a1_0 then (if a0_1 = a1_1 then (spec_RedrawTiles.j0 k l3 (a0_2 != a1_2) a0_0 a0_1 a0_2 l0_3 a1_0 a1_1 a1_2 l1_3 tz0 tz1 tz2 tz5) else (spec_RedrawTiles.j0 k l3 true a0_0 a0_1 a0_2 l0_3 a1_0 a1_1 a1_2 l1_3 tz0 tz1 tz2 tz5)) else (spec_RedrawTiles.j0 k l3 true a0_0 a0_1 a0_2 l0_3 a1_0 a1_1 a1_2 l1_3 tz0 tz1 tz2 tz5)) = some (r1, r2, r3, r4, r5) := by rw [if_pos rfl] at H; exact H
    clear H
    have H := H1
    clear H1
    by_cases c23 : a0_0 = a1_0
    ·rw [if_pos c23] at H
     have c23b0 : (a0_0 == a1_0) = true := beq_iff_eq.mpr c23
     have c23b1 : (a0_0 != a1_0) = false := bne_eq_false_iff_eq.mpr c23
     clear c23
     (skip)
     by_cases c24 : a0_1 = a1_1
     ·rw [if_pos c24] at H
      have c24b0 : (a0_1 == a1_1) = true := beq_iff_eq.mpr c24
      have c24b1 : (a0_1 != a1_1) = false := bne_eq_false_iff_eq.mpr c24
      clear c24
      have H' := mk H
      clear H
      have hnc27 := NBz13.out
      obtain ⟨hcz28_0, hcz28_1, hcz28_2, hcz28_3, -⟩ := c4 BKz1.out
      go_wp2_with (first | (go_at_call 89; (with_reducible refine (spec_validImage.calls k a0_0 a0_1 a0_2 _ _ l0_3 true _ ?side1 ?side2 A21.out).mono ?_); (case side1 => exact Kd.C_below HR0_3.out (by repeat (with_reducible first | exact HB.out | refine below_set ?_ GEz0.out))); (case side2 => exact HC0_3.out); rintro e w29 ⟨rfl, hb⟩; replace HOz2 := mk (Kd.R_below (by exact (Kd.R_mono (R4 (Kd.R_types HOz2.out BKz3.out (by decide)) (.int .i64 tz0) (.int .i64 tz1) (.int .i64 tz2) (.slice Ao19 tz5.length co19)) (fun _ h_ => h_.1))) hb); replace BKz1 := mk (blk_below (g := gbz3) (o := .cells #[.int .i64 a0_0, .int .i64 a0_1, .int .i64 a0_2, .slice A0_3 l0_3.length c0_3] 27 (0, 0)) (by refine f4 ?_ NBz1.out; exact BKz1.out) hb); replace BKz0 := mk (blk_below (g := gbz1) (o := .cells #[.int .i64 a1_0, .int .i64 a1_1, .int .i64 a1_2, .slice A1_3 l1_3.length c1_3] 27 (0, 0)) (by refine f4 ?_ NBz2.out; exact BKz0.out) hb); replace BKz2 := mk (blk_below (g := gbz4) (o := .cells #[.int .i64 0, .int .i64 0, .int .i64 0, .slice none 0 0] 27 (0, 0)) (by refine f4 ?_ NBz3.out; exact BKz2.out) hb); replace BKz3 := mk (blk_below (g := gbz2) (o := .cells #[.int .i64 tz0, .int .i64 tz1, .int .i64 tz2, .slice Ao19 tz5.length co19] 27 (0, 0)) (by refine p4 (.int .i64 0) (.int .i64 0) (.int .i64 0) (.slice none 0 0) ?_; exact BKz3.out) hb); replace HB := mk (below_step (by repeat (with_reducible first | exact HB.out | refine below_set ?_ GEz0.out)) hb); obtain ⟨hcz30_0, hcz30_1, hcz30_2, -⟩ := c4 BKz1.out; obtain ⟨hcz33_0, hcz33_1, hcz33_2, -⟩ := c4 BKz0.out))
      go_meet
      case rel => exact ⟨_, (a0_2 != a1_2), (by rfl), H', ⟨by omega⟩, HOz2, BKz1, BKz0, BKz2, BKz3, HB⟩
     rw [if_neg c24] at H
     have c24b0 : (a0_1 == a1_1) = false := beq_eq_false_iff_ne.mpr c24
     have c24b1 : (a0_1 != a1_1) = true := bne_iff_ne.mpr c24
     have H' := mk H
     clear H
     have hnc36 := NBz13.out
     obtain ⟨hcz37_0, hcz37_1, hcz37_2, hcz37_3, -⟩ := c4 BKz1.out
     go_wp2_with (first | (go_at_call 89; (with_reducible refine (spec_validImage.calls k a0_0 a0_1 a0_2 _ _ l0_3 true _ ?side1 ?side2 A21.out).mono ?_); (case side1 => exact Kd.C_below HR0_3.out (by repeat (with_reducible first | exact HB.out | refine below_set ?_ GEz0.out))); (case side2 => exact HC0_3.out); rintro e w38 ⟨rfl, hb⟩; replace HOz2 := mk (Kd.R_below (by exact (Kd.R_mono (R4 (Kd.R_types HOz2.out BKz3.out (by decide)) (.int .i64 tz0) (.int .i64 tz1) (.int .i64 tz2) (.slice Ao19 tz5.length co19)) (fun _ h_ => h_.1))) hb); replace BKz1 := mk (blk_below (g := gbz3) (o := .cells #[.int .i64 a0_0, .int .i64 a0_1, .int .i64 a0_2, .slice A0_3 l0_3.length c0_3] 27 (0, 0)) (by refine f4 ?_ NBz1.out; exact BKz1.out) hb); replace BKz0 := mk (blk_below (g := gbz1) (o := .cells #[.int .i64 a1_0, .int .i64 a1_1, .int .i64 a1_2, .slice A1_3 l1_3.length c1_3] 27 (0, 0)) (by refine f4 ?_ NBz2.out; exact BKz0.out) hb); replace BKz2 := mk (blk_below (g := gbz4) (o := .cells #[.int .i64 0, .int .i64 0, .int .i64 0, .slice none 0 0] 27 (0, 0)) (by refine f4 ?_ NBz3.out; exact BKz2.out) hb); replace BKz3 := mk (blk_below (g := gbz2) (o := .cells #[.int .i64 tz0, .int .i64 tz1, .int .i64 tz2, .slice Ao19 tz5.length co19] 27 (0, 0)) (by refine p4 (.int .i64 0) (.int .i64 0) (.int .i64 0) (.slice none 0 0) ?_; exact BKz3.out) hb); replace HB := mk (below_step (by repeat (with_reducible first | exact HB.out | refine below_set ?_ GEz0.out)) hb); obtain ⟨hcz39_0, hcz39_1, -⟩ := c4 BKz1.out; obtain ⟨hcz42_0, hcz42_1, -⟩ := c4 BKz0.out))
     go_meet
     case rel => exact ⟨_, (true), (by rfl), H', ⟨by omega⟩, HOz2, BKz1, BKz0, BKz2, BKz3, HB⟩
    rw [if_neg c23] at H
    have c23b0 : (a0_0 == a1_0) = false := beq_eq_false_iff_ne.mpr c23
    have c23b1 : (a0_0 != a1_0) = true := bne_iff_ne.mpr c23
    (skip)
    have H' := mk H
    clear H
    have hnc45 := NBz13.out
    obtain ⟨hcz46_0, hcz46_1, hcz46_2, hcz46_3, -⟩ := c4 BKz1.out
    go_wp2_with (first | (go_at_call 89; (with_reducible refine (spec_validImage.calls k a0_0 a0_1 a0_2 _ _ l0_3 true _ ?side1 ?side2 A21.out).mono ?_); (case side1 => exact Kd.C_below HR0_3.out (by repeat (with_reducible first | exact HB.out | refine below_set ?_ GEz0.out))); (case side2 => exact HC0_3.out); rintro e w47 ⟨rfl, hb⟩; replace HOz2 := mk (Kd.R_below (by exact (Kd.R_mono (R4 (Kd.R_types HOz2.out BKz3.out (by decide)) (.int .i64 tz0) (.int .i64 tz1) (.int .i64 tz2) (.slice Ao19 tz5.length co19)) (fun _ h_ => h_.1))) hb); replace BKz1 := mk (blk_below (g := gbz3) (o := .cells #[.int .i64 a0_0, .int .i64 a0_1, .int .i64 a0_2, .slice A0_3 l0_3.length c0_3] 27 (0, 0)) (by refine f4 ?_ NBz1.out; exact BKz1.out) hb); replace BKz0 := mk (blk_below (g := gbz1) (o := .cells #[.int .i64 a1_0, .int .i64 a1_1, .int .i64 a1_2, .slice A1_3 l1_3.length c1_3] 27 (0, 0)) (by refine f4 ?_ NBz2.out; exact BKz0.out) hb); replace BKz2 := mk (blk_below (g := gbz4) (o := .cells #[.int .i64 0, .int .i64 0, .int .i64 0, .slice none 0 0] 27 (0, 0)) (by refine f4 ?_ NBz3.out; exact BKz2.out) hb); replace BKz3 := mk (blk_below (g := gbz2) (o := .cells #[.int .i64 tz0, .int .i64 tz1, .int .i64 tz2, .slice Ao19 tz5.length co19] 27 (0, 0)) (by refine p4 (.int .i64 0) (.int .i64 0) (.int .i64 0) (.slice none 0 0) ?_; exact BKz3.out) hb); replace HB := mk (below_step (by repeat (with_reducible first | exact HB.out | refine below_set ?_ GEz0.out)) hb); have hcz48_0 : w47.cell? ⟨gbz3, 0, none⟩ = some (.int .i64 a0_0) := (blk_cell BKz1.out 0).trans rfl; have hcz51_0 : w47.cell? ⟨gbz1, 0, none⟩ = some (.int .i64 a1_0) := (blk_cell BKz0.out 0).trans rfl))
    go_meet
    case rel => exact ⟨_, (true), (by rfl), H', ⟨by omega⟩, HOz2, BKz1, BKz0, BKz2, BKz3, HB⟩
   replace c22 := Bool.eq_false_iff.mpr c22
   subst c22
   have H1 : (spec_RedrawTiles.j0 k l3 true a0_0 a0_1 a0_2 l0_3 a1_0 a1_1 a1_2 l1_3 tz0 tz1 tz2 tz5) = some (r1, r2, r3, r4, r5) := by rw [if_neg (show ¬ (false = true) by decide)] at H; exact H
   clear H
   have H := H1
   clear H1
   have H' := mk H
   clear H
   have hnc54 := NBz13.out
   obtain ⟨hcz55_0, hcz55_1, hcz55_2, hcz55_3, -⟩ := c4 BKz1.out
   go_wp2_with (first | (go_at_call 89; (with_reducible refine (spec_validImage.calls k a0_0 a0_1 a0_2 _ _ l0_3 false _ ?side1 ?side2 A21.out).mono ?_); (case side1 => exact Kd.C_below HR0_3.out (by repeat (with_reducible first | exact HB.out | refine below_set ?_ GEz0.out))); (case side2 => exact HC0_3.out); rintro e w56 ⟨rfl, hb⟩; replace HOz2 := mk (Kd.R_below (by exact (Kd.R_mono (R4 (Kd.R_types HOz2.out BKz3.out (by decide)) (.int .i64 tz0) (.int .i64 tz1) (.int .i64 tz2) (.slice Ao19 tz5.length co19)) (fun _ h_ => h_.1))) hb); replace BKz1 := mk (blk_below (g := gbz3) (o := .cells #[.int .i64 a0_0, .int .i64 a0_1, .int .i64 a0_2, .slice A0_3 l0_3.length c0_3] 27 (0, 0)) (by refine f4 ?_ NBz1.out; exact BKz1.out) hb); replace BKz0 := mk (blk_below (g := gbz1) (o := .cells #[.int .i64 a1_0, .int .i64 a1_1, .int .i64 a1_2, .slice A1_3 l1_3.length c1_3] 27 (0, 0)) (by refine f4 ?_ NBz2.out; exact BKz0.out) hb); replace BKz2 := mk (blk_below (g := gbz4) (o := .cells #[.int .i64 0, .int .i64 0, .int .i64 0, .slice none 0 0] 27 (0, 0)) (by refine f4 ?_ NBz3.out; exact BKz2.out) hb); replace BKz3 := mk (blk_below (g := gbz2) (o := .cells #[.int .i64 tz0, .int .i64 tz1, .int .i64 tz2, .slice Ao19 tz5.length co19] 27 (0, 0)) (by refine p4 (.int .i64 0) (.int .i64 0) (.int .i64 0) (.slice none 0 0) ?_; exact BKz3.out) hb); replace HB := mk (below_step (by repeat (with_reducible first | exact HB.out | refine below_set ?_ GEz0.out)) hb)))
   go_meet
   case rel => exact ⟨_, (true), (by rfl), H', ⟨by omega⟩, HOz2, BKz1, BKz0, BKz2, BKz3, HB⟩
  replace c20 := Bool.eq_false_iff.mpr c20
  subst c20
  have H1 : (spec_RedrawTiles.j0 k l3 true a0_0 a0_1 a0_2 l0_3 a1_0 a1_1 a1_2 l1_3 tz0 tz1 tz2 tz5) = some (r1, r2, r3, r4, r5) := by rw [if_neg (show ¬ (false = true) by decide)] at H; exact H
  clear H
  have H := H1
  clear H1
  have H' := mk H
  clear H
  go_wp2
  go_meet
  case rel => exact ⟨_, (true), (by rfl), H', ⟨by omega⟩, ⟨by exact Kd.R_mono (R4 (Kd.R_types HOz2.out BKz3.out (by decide)) (.int .i64 tz0) (.int .i64 tz1) (.int .i64 tz2) (.slice Ao19 tz5.length co19)) (fun _ hk => trivial)⟩, ⟨by refine f4 ?_ NBz1.out; exact BKz1.out⟩, ⟨by refine f4 ?_ NBz2.out; exact BKz0.out⟩, ⟨by refine f4 ?_ NBz3.out; exact BKz2.out⟩, ⟨by refine p4 (.int .i64 0) (.int .i64 0) (.int .i64 0) (.slice none 0 0) ?_; exact BKz3.out⟩, ⟨by repeat (with_reducible first | exact HB.out | refine below_set ?_ GEz0.out)⟩⟩
 case rest =>
  clear HC6
  obtain ⟨kq, x48_5, rfl, HA, HJ5, HOz0, BKz1, BKz0, BKz2, BKz3, HB⟩ := hcut
  cases kq with
  | zero => exact absurd HA.out (by simp [spec_RedrawTiles.j0])
  | succ kj5 =>
   have H := HA.out
   clear HA
   simp only [spec_RedrawTiles.j0] at H
   by_cases c57 : x48_5 = true
   ·subst c57
    have H1 : (some (0, 0, 0, ([] : List Int), false)) = some (r1, r2, r3, r4, r5) := by rw [if_pos rfl] at H; exact H
    clear H
    have H := H1
    clear H1
    simp only [Option.some.injEq, Prod.mk.injEq] at H
    obtain ⟨rfl, rfl, rfl, rfl, rfl⟩ := H
    obtain ⟨hcz61_0, hcz61_1, hcz61_2, hcz61_3, hfz61_0, hfz61_1, hfz61_2, hfz61_3⟩ := c4 BKz2.out
    go_wp2
    refine bodyPost_ret (results_ct rfl _ _ gbz4 27 #[.int .i64 0, .int .i64 0, .int .i64 0, .slice none 0 0] (0, 0) _ rfl (by refine p4 (.int .i64 0) (.int .i64 0) (.int .i64 0) (.slice none 0 0) ?_; exact BKz2.out) Try.underlying27 rfl (by kernel_rfl)) rfl ?_
    exact ⟨_, by rfl, by exact Kd.R_nil _ _ _ _ _, by repeat (with_reducible first | exact HB.out | refine below_set ?_ GEz2.out)⟩
   replace c57 := Bool.eq_false_iff.mpr c57
   subst c57
   have H1 : ((spec_copyImage.f a0_0 a0_1 a0_2 l0_3).bind fun btz3 => (spec_RedrawTiles.l0 kj5 l3 0 a1_0 a1_1 a1_2 l1_3 tz0 tz1 tz2 tz5 btz3.1 btz3.2.1 btz3.2.2.1 btz3.2.2.2)) = some (r1, r2, r3, r4, r5) := by rw [if_neg (show ¬ (false = true) by decide)] at H; exact H
   clear H
   have H := H1
   clear H1
   replace H := Option.bind_eq_some_iff.mp H
   obtain ⟨⟨tz3, tz4, tz6, tz15⟩, A620, H⟩ := H
   dsimp only at H
   have A62 := mk A620
   clear A620
   have H' := mk H
   clear H
   obtain ⟨hcz66_0, hcz66_1, hcz66_2, hcz66_3, hfz66_0, hfz66_1, hfz66_2, hfz66_3⟩ := c4 BKz1.out
   go_wp2_with (first | ((with_reducible refine gate_callee (f := 113) rfl ?_); refine goesL_ (some 51) rfl rfl Try.func113 (by kernel_rfl) rfl #[.agg #[.int .i64 a0_0, .int .i64 a0_1, .int .i64 a0_2, .slice A0_3 l0_3.length c0_3]] rfl (by (try simp only [bitvec_to_nat]); rfl) ?_; (with_reducible refine (spec_copyImage.calls a0_0 a0_1 a0_2 _ _ l0_3 tz3 tz4 tz6 tz15 _ ?side1 ?side2 A62.out).mono ?_); (case side1 => repeat (exact (Kd.C_below HR0_3.out HB.out))); (case side2 => exact HC0_3.out); rintro e w67 ⟨vz1, rfl, ho0, hb⟩; refine ⟨_, rfl, ?_⟩; have HOz4 := mk (Kd.R_lower (Kd.R_new' ho0 (Kd.R_lt HOz0.out)) (below_size HB.out)); replace HOz0 := mk (Kd.R_elder' HOz0.out (Kd.R_base ho0) hb); replace BKz1 := mk (blk_below BKz1.out hb); replace BKz0 := mk (blk_below BKz0.out hb); replace BKz2 := mk (blk_below BKz2.out hb); replace BKz3 := mk (blk_below BKz3.out hb); replace HB := mk (below_step HB.out hb)) | ((with_reducible refine gate_dst (N := 12) rfl ?_); refine box_event (by rfl) (N := 12) (by rfl) (cs := #[.int .i64 0, .int .i64 0, .int .i64 0, .slice none 0 0]) (t := 27) (by go_simp; done) ?_; intro gbz5 hg w68 hbox hb; replace HOz0 := mk (Kd.R_below HOz0.out hb); replace HOz4 := mk (Kd.R_below HOz4.out hb); have BKz4 := mk (hbox); have GEz3 := mk ((by rw [hg]; exact (below_size HB.out) : w.heap.size ≤ gbz5)); replace HB := mk (below_step HB.out hb); have NBz14 := mk ((by rw [hg]; exact Nat.ne_of_lt (blk_lt BKz1.out) : gbz3 ≠ gbz5)); replace BKz1 := mk (blk_below BKz1.out hb); have NBz15 := mk ((by rw [hg]; exact Nat.ne_of_lt (blk_lt BKz0.out) : gbz1 ≠ gbz5)); replace BKz0 := mk (blk_below BKz0.out hb); have NBz16 := mk ((by rw [hg]; exact Nat.ne_of_lt (blk_lt BKz2.out) : gbz4 ≠ gbz5)); replace BKz2 := mk (blk_below BKz2.out hb); have NBz17 := mk ((by rw [hg]; exact Nat.ne_of_lt (blk_lt BKz3.out) : gbz2 ≠ gbz5)); replace BKz3 := mk (blk_below BKz3.out hb); clear hb hbox hg; obtain ⟨hcz73_0, hcz73_1, hcz73_2, hcz73_3, hfz73_0, hfz73_1, hfz73_2, hfz73_3⟩ := c4 BKz4.out; obtain ⟨Ao74, co74, eo74⟩ := Kd.R_slice HOz4.out; subst eo74))
   go_loopg [13] kj5 (fun kq v13 w' => ∃ (x13_2 : Int) (xz4 : Int) (xz3 : Int) (xz2 : Int) (xz0 : List Int) (xz1 : List Int) (aD : Value) (aB : Value), v13 = .int .i64 x13_2 ∧ Aside0 (spec_RedrawTiles.l0 kq l3 x13_2 a1_0 a1_1 a1_2 l1_3 tz0 tz1 tz2 xz0 tz3 tz4 tz6 xz1 = some (r1, r2, r3, r4, r5)) ∧ Aside0 (kq ≤ kj5) ∧ Aside0 (Kd.R (Kd.int .i64) 3 w' w.heap.size (fun k_ => some k_ ≠ (aB : Value).ownBlock) aD xz0) ∧ Aside0 (Kd.R (Kd.int .i64) 3 w' w.heap.size (fun k_ => some k_ ≠ (aD : Value).ownBlock) aB xz1) ∧ Aside0 (w'.heap[gbz3]? = some (.cells #[.int .i64 a0_0, .int .i64 a0_1, .int .i64 a0_2, (.slice A0_3 l0_3.length c0_3)] 27 (0, 0))) ∧ Aside0 (w'.heap[gbz1]? = some (.cells #[.int .i64 a1_0, .int .i64 a1_1, .int .i64 a1_2, (.slice A1_3 l1_3.length c1_3)] 27 (0, 0))) ∧ Aside0 (w'.heap[gbz4]? = some (.cells #[.int .i64 xz4, .int .i64 xz3, .int .i64 xz2, (.slice none 0 0)] 27 (0, 0))) ∧ Aside0 (w'.heap[gbz2]? = some (.cells #[.int .i64 tz0, .int .i64 tz1, .int .i64 tz2, aD] 27 (0, 0))) ∧ Aside0 (w'.heap[gbz5]? = some (.cells #[.int .i64 tz3, .int .i64 tz4, .int .i64 tz6, aB] 27 (0, 0))) ∧ Aside0 (Below w.heap.size w w'))
   case atStart => exact ⟨(0), (0), (0), (0), (tz5), (tz15), (.slice Ao19 tz5.length co19), (.slice Ao74 tz15.length co74), (by rfl), H', ⟨Nat.le_refl _⟩, ⟨by exact Kd.R_mono (R4 (Kd.R_types HOz0.out BKz4.out (by decide)) (.int .i64 tz3) (.int .i64 tz4) (.int .i64 tz6) (.slice Ao74 tz15.length co74)) (fun _ hk => hk.1.2)⟩, ⟨by exact Kd.R_mono (R4 (Kd.R_types HOz4.out BKz4.out (by decide)) (.int .i64 tz3) (.int .i64 tz4) (.int .i64 tz6) (.slice Ao74 tz15.length co74)) (fun _ hk => hk.1.2)⟩, ⟨by refine f4 ?_ NBz14.out; exact BKz1.out⟩, ⟨by refine f4 ?_ NBz15.out; exact BKz0.out⟩, ⟨by refine f4 ?_ NBz16.out; exact BKz2.out⟩, ⟨by refine f4 ?_ NBz17.out; exact BKz3.out⟩, ⟨by refine p4 (.int .i64 0) (.int .i64 0) (.int .i64 0) (.slice none 0 0) ?_; exact BKz4.out⟩, ⟨by repeat (with_reducible first | exact HB.out | refine below_set ?_ GEz3.out)⟩⟩
   case round =>
    clear H'
    obtain ⟨x13_2, xz4, xz3, xz2, xz0, xz1, aD, aB, rfl, HA, HK2, HOz0, HOz1, BKz1, BKz0, BKz2, BKz3, BKz4, HB⟩ := hrel
    cases gk with
    | zero => exact absurd HA.out (by simp [spec_RedrawTiles.l0])
    | succ k2 =>
     have H := HA.out
     clear HA
     simp only [spec_RedrawTiles.l0] at H
     by_cases c75 : x13_2 < (l3.length : Int)
     ·rw [if_pos c75] at H
      have c75b0 : decide (x13_2 < (l3.length : Int)) = true := decide_eq_true c75
      clear c75
      have HC76 := mk H
      clear H
      go_upto_region 8 with (fail)
      go_cut [82] (fun v82 wc => ∃ (kq : Nat) (x82_75 : Bool), v82 = .bool x82_75 ∧ Aside0 (spec_RedrawTiles.j2 kq l3 x13_2 x82_75 a1_0 a1_1 a1_2 l1_3 tz0 tz1 tz2 xz0 tz3 tz4 tz6 xz1 = some (r1, r2, r3, r4, r5)) ∧ Aside0 (kq ≤ k2) ∧ Aside0 (Kd.R (Kd.int .i64) 3 wc w.heap.size (fun k_ => some k_ ≠ (aB : Value).ownBlock) aD xz0) ∧ Aside0 (Kd.R (Kd.int .i64) 3 wc w.heap.size (fun k_ => some k_ ≠ (aD : Value).ownBlock) aB xz1) ∧ Aside0 (wc.heap[gbz3]? = some (.cells #[.int .i64 a0_0, .int .i64 a0_1, .int .i64 a0_2, (.slice A0_3 l0_3.length c0_3)] 27 (0, 0))) ∧ Aside0 (wc.heap[gbz1]? = some (.cells #[.int .i64 a1_0, .int .i64 a1_1, .int .i64 a1_2, (.slice A1_3 l1_3.length c1_3)] 27 (0, 0))) ∧ Aside0 (wc.heap[gbz4]? = some (.cells #[.int .i64 xz4, .int .i64 xz3, .int .i64 xz2, (.slice none 0 0)] 27 (0, 0))) ∧ Aside0 (wc.heap[gbz2]? = some (.cells #[.int .i64 tz0, .int .i64 tz1, .int .i64 tz2, aD] 27 (0, 0))) ∧ Aside0 (wc.heap[gbz5]? = some (.cells #[.int .i64 tz3, .int .i64 tz4, .int .i64 tz6, aB] 27 (0, 0))) ∧ Aside0 (Below w.heap.size w wc))
      case first =>
       have H := HC76.out
       clear HC76
       by_cases c77 : 0 ≤ x13_2
       ·rw [if_pos c77] at H
        have c77b0 : decide (0 ≤ x13_2) = true := decide_eq_true c77
        clear c77
        (skip)
        replace H := Option.bind_eq_some_iff.mp H
        obtain ⟨tz11, A780, H⟩ := H
        replace H : ((spec_inRange.f (rd l3 x13_2) 0 (wrap64 (tz11 - 1))).bind fun tz14 => (if tz14 = true then (if x13_2 > 0 then (if 0 ≤ (wrap64 (x13_2 - 1)) then (if (wrap64 (x13_2 - 1)) < (l3.length : Int) then (spec_RedrawTiles.j2 k2 l3 x13_2 (decide ((rd l3 x13_2) ≤ (rd l3 (wrap64 (x13_2 - 1))))) a1_0 a1_1 a1_2 l1_3 tz0 tz1 tz2 xz0 tz3 tz4 tz6 xz1) else none) else none) else (spec_RedrawTiles.j2 k2 l3 x13_2 false a1_0 a1_1 a1_2 l1_3 tz0 tz1 tz2 xz0 tz3 tz4 tz6 xz1)) else (spec_RedrawTiles.j2 k2 l3 x13_2 true a1_0 a1_1 a1_2 l1_3 tz0 tz1 tz2 xz0 tz3 tz4 tz6 xz1))) = some (r1, r2, r3, r4, r5) := H
        have A78 := mk A780
        clear A780
        replace H := Option.bind_eq_some_iff.mp H
        obtain ⟨tz14, A790, H⟩ := H
        replace H : (if tz14 = true then (if x13_2 > 0 then (if 0 ≤ (wrap64 (x13_2 - 1)) then (if (wrap64 (x13_2 - 1)) < (l3.length : Int) then (spec_RedrawTiles.j2 k2 l3 x13_2 (decide ((rd l3 x13_2) ≤ (rd l3 (wrap64 (x13_2 - 1))))) a1_0 a1_1 a1_2 l1_3 tz0 tz1 tz2 xz0 tz3 tz4 tz6 xz1) else none) else none) else (spec_RedrawTiles.j2 k2 l3 x13_2 false a1_0 a1_1 a1_2 l1_3 tz0 tz1 tz2 xz0 tz3 tz4 tz6 xz1)) else (spec_RedrawTiles.j2 k2 l3 x13_2 true a1_0 a1_1 a1_2 l1_3 tz0 tz1 tz2 xz0 tz3 tz4 tz6 xz1)) = some (r1, r2, r3, r4, r5) := H
        have A79 := mk A790
        clear A790
        by_cases c80 : tz14 = true
        ·subst c80
         have H1 : (if x13_2 > 0 then (if 0 ≤ (wrap64 (x13_2 - 1)) then (if (wrap64 (x13_2 - 1)) < (l3.length : Int) then (spec_RedrawTiles.j2 k2 l3 x13_2 (decide ((rd l3 x13_2) ≤ (rd l3 (wrap64 (x13_2 - 1))))) a1_0 a1_1 a1_2 l1_3 tz0 tz1 tz2 xz0 tz3 tz4 tz6 xz1) else none) else none) else (spec_RedrawTiles.j2 k2 l3 x13_2 false a1_0 a1_1 a1_2 l1_3 tz0 tz1 tz2 xz0 tz3 tz4 tz6 xz1)) = some (r1, r2, r3, r4, r5) := by rw [if_pos rfl] at H; exact H
         clear H
         have H := H1
         clear H1
         by_cases c81 : x13_2 > 0
         ·rw [if_pos c81] at H
          have c81b0 : decide (0 < x13_2) = true := decide_eq_true c81
          clear c81
          obtain ⟨ji82, hji82⟩ : ∃ j_ : Int, (wrap64 (x13_2 - 1)) = j_ := ⟨_, rfl⟩
          replace H : (if 0 ≤ ji82 then (if ji82 < (l3.length : Int) then (spec_RedrawTiles.j2 k2 l3 x13_2 (decide ((rd l3 x13_2) ≤ (rd l3 ji82))) a1_0 a1_1 a1_2 l1_3 tz0 tz1 tz2 xz0 tz3 tz4 tz6 xz1) else none) else none) = some (r1, r2, r3, r4, r5) := by (rw [hji82] at H; exact H)
          have hji82w : (IntKind.i64.wrap (x13_2 - 1)) = ji82 := (i64_w _).trans hji82
          by_cases c83 : 0 ≤ (ji82)
          ·rw [if_pos c83] at H
           have c83b0 : decide (0 ≤ ji82) = true := decide_eq_true c83
           clear c83
           by_cases c84 : ji82 < (l3.length : Int)
           ·rw [if_pos c84] at H
            have c84b0 : decide (ji82 < (l3.length : Int)) = true := decide_eq_true c84
            clear c84
            have H' := mk H
            clear H
            try go_wp2
            replace HOz0 := mk (Kd.R_drew HOz0.out)
            replace HOz1 := mk (Kd.R_drew HOz1.out)
            replace BKz1 := mk (blk_drew BKz1.out)
            replace BKz0 := mk (blk_drew BKz0.out)
            replace BKz2 := mk (blk_drew BKz2.out)
            replace BKz3 := mk (blk_drew BKz3.out)
            replace BKz4 := mk (blk_drew BKz4.out)
            replace HB := mk (below_drew1 HB.out)
            have aF : 0 ≤ (x13_2 : Int) := of_decide_eq_true (by (with_reducible assumption))
            have aG : x13_2 < (l3.length : Int) := of_decide_eq_true (by (with_reducible assumption))
            obtain ⟨aH, aN, aC⟩ := Kd.at_int HR3.out x13_2 aF aG
            have aA := aC
            cases aN
            replace aC := (HB.out.cell (World.block_lt_of_cell? w _ aC)).trans aC
            replace aF := eq_true aF
            replace aG := eq_true aG
            have aP : 0 ≤ (x13_2 : Int) := of_decide_eq_true (by (with_reducible assumption))
            have aQ : x13_2 < (l3.length : Int) := of_decide_eq_true (by (with_reducible assumption))
            obtain ⟨aV, aX, aK⟩ := Kd.at_int HR3.out x13_2 aP aQ
            have aI := aK
            obtain rfl : aH = aV := (by injection aX)
            replace aK := (HB.out.cell (World.block_lt_of_cell? w _ aK)).trans aK
            replace aP := eq_true aP
            replace aQ := eq_true aQ
            have aR : 0 ≤ (ji82 : Int) := of_decide_eq_true (by (with_reducible assumption))
            have aS : ji82 < (l3.length : Int) := of_decide_eq_true (by (with_reducible assumption))
            obtain ⟨aW, aY, aL⟩ := Kd.at_int HR3.out ji82 aR aS
            have aJ := aL
            obtain rfl : aH = aW := (by injection aY)
            replace aL := (HB.out.cell (World.block_lt_of_cell? w _ aL)).trans aL
            replace aR := eq_true aR
            replace aS := eq_true aS
            refine start_ (n := 25) (S := fun w' => w'.cell? ⟨gbz1, 0, none⟩ = some (.int .i64 a1_0) ∧ w'.cell? ⟨gbz1, 1, none⟩ = some (.int .i64 a1_1) ∧ w'.cell? ⟨gbz1, 2, none⟩ = some (.int .i64 a1_2) ∧ w'.cell? ⟨gbz1, 3, none⟩ = some (.slice A1_3 l1_3.length c1_3) ∧ w'.cell? (aH.add (x13_2).toNat) = some (.int .i64 (rd l3 x13_2)) ∧ w'.cell? (aH.add (x13_2).toNat) = some (.int .i64 (rd l3 x13_2)) ∧ w'.cell? (aH.add (ji82).toNat) = some (.int .i64 (rd l3 ji82))) (ds := []) #[false, false, false, false, false, false, false, false, false, false, false, false, false, false, false, false, false, false, false, false, false, false, false, false, false] (by kernel_rfl) rfl rfl ⟨blk_cell BKz0.out 0, blk_cell BKz0.out 1, blk_cell BKz0.out 2, blk_cell BKz0.out 3, ((HB.out.cell (World.block_lt_of_cell? w _ aA)).trans aA), ((HB.out.cell (World.block_lt_of_cell? w _ aI)).trans aI), ((HB.out.cell (World.block_lt_of_cell? w _ aJ)).trans aJ)⟩ (fun hHeld => ?_); refine with_tabW spec_RedrawTiles.tab8 spec_RedrawTiles.bits8 (fun HT_ HW_ => ?_)
            generalize wr.drew = w85 at HOz0 HOz1 BKz1 BKz0 BKz2 BKz3 BKz4 HB aC aK aL hHeld ⊢
            refine pu 0 58 ?_ ?_ rfl rfl (any_of HT_.out (by kernel_rfl)) (Or.inl ⟨by rfl, ?_⟩) ?_ ?_
            rotate_left 2
            ·intro w'
             go_simp
             with_reducible rfl
            ·simp only [seval]
             rfl
            refine pu 1 59 ?_ ?_ rfl rfl (any_of HT_.out (by kernel_rfl)) (Or.inl ⟨by rfl, ?_⟩) ?_ ?_
            rotate_left 2
            ·intro w'
             go_simp
             with_reducible rfl
            ·simp only [seval]
             rfl
            refine pu 2 60 ?_ ?_ rfl rfl (any_of HT_.out (by kernel_rfl)) (Or.inl ⟨by rfl, ?_⟩) ?_ ?_
            rotate_left 2
            ·intro w'
             go_simp
             with_reducible rfl
            ·simp only [seval]
             rfl
            refine tk 3 61 ?_ ?_ rfl rfl (take_ofW HT_.out HW_.out (by kernel_rfl)) (Or.inl ⟨by rfl, ?_⟩) hHeld ?_ ?_
            rotate_left 2
            ·rintro w' ⟨s0, s1, s2, s3, s4, s5, s6⟩
             go_simp
             with_reducible rfl
            ·simp only [seval]
             rfl
            refine tk 4 62 ?_ ?_ rfl rfl (take_ofW HT_.out HW_.out (by kernel_rfl)) (Or.inl ⟨by rfl, ?_⟩) hHeld ?_ ?_
            rotate_left 2
            ·rintro w' ⟨s0, s1, s2, s3, s4, s5, s6⟩
             go_simp
             with_reducible rfl
            ·simp only [seval]
             rfl
            refine one_ (i := 5) (N := some 63) #[true, true, true, true, true, true, false, false, false, false, false, false, false, false, false, false, false, false, false, false, false, false, false, false, false] rfl rfl (one_of HT_.out (by kernel_rfl)) (by decide) (fun K hK => ?_)
            refine goes_ Try.func90 (by kernel_rfl) rfl #[.agg #[.int .i64 a1_0, .int .i64 a1_1, .int .i64 a1_2, .slice A1_3 l1_3.length c1_3]] (by rfl) rfl rfl (by (try simp only [bitvec_to_nat]); rfl) ?_
            with_reducible refine (spec_tileCount.calls a1_0 a1_1 a1_2 _ _ l1_3 tz11 _ ?side1 ?side2 A78.out).mono ?_
            (case side1 => repeat (exact (Kd.C_below HR1_3.out HB.out)))
            (case side2 => exact HC1_3.out)
            rintro e w86 ⟨rfl, hb⟩
            refine ⟨_, rfl, ?_⟩
            replace HOz0 := mk (Kd.R_below HOz0.out hb)
            replace HOz1 := mk (Kd.R_below HOz1.out hb)
            replace BKz1 := mk (blk_below BKz1.out hb)
            replace BKz0 := mk (blk_below BKz0.out hb)
            replace BKz2 := mk (blk_below BKz2.out hb)
            replace BKz3 := mk (blk_below BKz3.out hb)
            replace BKz4 := mk (blk_below BKz4.out hb)
            replace HB := mk (below_step HB.out hb)
            (try clear hb)
            refine hK.out _ _ ⟨blk_cell BKz0.out 0, blk_cell BKz0.out 1, blk_cell BKz0.out 2, blk_cell BKz0.out 3, ((HB.out.cell (World.block_lt_of_cell? w _ aA)).trans aA), ((HB.out.cell (World.block_lt_of_cell? w _ aI)).trans aI), ((HB.out.cell (World.block_lt_of_cell? w _ aJ)).trans aJ)⟩ (fun hHeld => ?_)
            clear hK K
            refine norm_ (a' := ?_) ?_ ?_
            rotate_left
            ·show Act.put _ (some 63) _ = _
             simp only [seval]
             rfl
            refine pu 6 64 ?_ ?_ rfl rfl (any_of HT_.out (by kernel_rfl)) (Or.inl ⟨by rfl, ?_⟩) ?_ ?_
            rotate_left 2
            ·intro w'
             go_simp
             with_reducible rfl
            ·simp only [seval]
             rfl
            refine one_ (i := 7) (N := some 65) #[true, true, true, true, true, true, true, true, false, false, false, false, false, false, false, false, false, false, false, false, false, false, false, false, false] rfl rfl (one_of HT_.out (by kernel_rfl)) (by decide) (fun K hK => ?_)
            refine goes_ Try.func110 (by kernel_rfl) rfl #[.int .i64 (rd l3 x13_2), .int .i64 0, .int .i64 (wrap64 (tz11 - 1))] (by rfl) rfl rfl (by (try simp only [bitvec_to_nat]); rfl) ?_
            with_reducible refine (spec_inRange.calls (rd l3 x13_2) 0 (wrap64 (tz11 - 1)) true _ A79.out).mono ?_
            rintro e w' ⟨rfl, ⟨nd, rfl⟩⟩
            refine ⟨_, rfl, ?_⟩
            refine hK.out _ _ ⟨blk_cell BKz0.out 0, blk_cell BKz0.out 1, blk_cell BKz0.out 2, blk_cell BKz0.out 3, ((HB.out.cell (World.block_lt_of_cell? w _ aA)).trans aA), ((HB.out.cell (World.block_lt_of_cell? w _ aI)).trans aI), ((HB.out.cell (World.block_lt_of_cell? w _ aJ)).trans aJ)⟩ (fun hHeld => ?_)
            clear hK K
            refine norm_ (a' := ?_) ?_ ?_
            rotate_left
            ·show Act.put _ (some 65) _ = _
             simp only [seval]
             rfl
            refine pu 8 66 ?_ ?_ rfl rfl (any_of HT_.out (by kernel_rfl)) (Or.inl ⟨by rfl, ?_⟩) ?_ ?_
            rotate_left 2
            ·intro w'
             go_simp
             with_reducible rfl
            ·simp only [seval]
             rfl
            refine pu 9 67 ?_ ?_ rfl rfl (any_of HT_.out (by kernel_rfl)) (Or.inl ⟨by rfl, ?_⟩) ?_ ?_
            rotate_left 2
            ·intro w'
             go_simp
             with_reducible rfl
            ·simp only [seval]
             rfl
            refine pu 10 68 ?_ ?_ rfl rfl (any_of HT_.out (by kernel_rfl)) (Or.inl ⟨by rfl, ?_⟩) ?_ ?_
            rotate_left 2
            ·intro w'
             go_simp
             with_reducible rfl
            ·simp only [seval]
             rfl
            refine pu 11 69 ?_ ?_ rfl rfl (any_of HT_.out (by kernel_rfl)) (Or.inl ⟨by rfl, ?_⟩) ?_ ?_
            rotate_left 2
            ·intro w'
             go_simp
             with_reducible rfl
            ·simp only [seval]
             rfl
            refine pu 12 70 ?_ ?_ rfl rfl (any_of HT_.out (by kernel_rfl)) (Or.inl ⟨by rfl, ?_⟩) ?_ ?_
            rotate_left 2
            ·intro w'
             go_simp
             with_reducible rfl
            ·simp only [seval]
             rfl
            refine pu 13 71 ?_ ?_ rfl rfl (any_of HT_.out (by kernel_rfl)) (Or.inl ⟨by rfl, ?_⟩) ?_ ?_
            rotate_left 2
            ·intro w'
             go_simp
             with_reducible rfl
            ·simp only [seval]
             rfl
            refine pu 14 72 ?_ ?_ rfl rfl (any_of HT_.out (by kernel_rfl)) (Or.inl ⟨by rfl, ?_⟩) ?_ ?_
            rotate_left 2
            ·intro w'
             go_simp
             with_reducible rfl
            ·simp only [seval]
             rfl
            refine pu 15 73 ?_ ?_ rfl rfl (any_of HT_.out (by kernel_rfl)) (Or.inl ⟨by rfl, ?_⟩) ?_ ?_
            rotate_left 2
            ·intro w'
             go_simp
             with_reducible rfl
            ·simp only [seval]
             rfl
            refine pu 17 75 ?_ ?_ rfl rfl (any_of HT_.out (by kernel_rfl)) (Or.inl ⟨by rfl, ?_⟩) ?_ ?_
            rotate_left 2
            ·intro w'
             go_simp
             with_reducible rfl
            ·simp only [seval]
             rfl
            refine pu 18 76 ?_ ?_ rfl rfl (any_of HT_.out (by kernel_rfl)) (Or.inl ⟨by rfl, ?_⟩) ?_ ?_
            rotate_left 2
            ·intro w'
             go_simp
             with_reducible rfl
            ·simp only [seval]
             rfl
            refine pu 19 77 ?_ ?_ rfl rfl (any_of HT_.out (by kernel_rfl)) (Or.inl ⟨by rfl, ?_⟩) ?_ ?_
            rotate_left 2
            ·intro w'
             go_simp
             with_reducible rfl
            ·simp only [seval]
             rfl
            refine pu 20 78 ?_ ?_ rfl rfl (any_of HT_.out (by kernel_rfl)) (Or.inl ⟨by rfl, ?_⟩) ?_ ?_
            rotate_left 2
            ·intro w'
             go_simp
             with_reducible rfl
            ·simp only [seval]
             rfl
            refine tk 16 74 ?_ ?_ rfl rfl (take_ofW HT_.out HW_.out (by kernel_rfl)) (Or.inl ⟨by rfl, ?_⟩) hHeld ?_ ?_
            rotate_left 2
            ·rintro w' ⟨s0, s1, s2, s3, s4, s5, s6⟩
             go_simp
             with_reducible rfl
            ·simp only [seval]
             rfl
            refine tk 21 79 ?_ ?_ rfl rfl (take_ofW HT_.out HW_.out (by kernel_rfl)) (Or.inl ⟨by rfl, ?_⟩) hHeld ?_ ?_
            rotate_left 2
            ·rintro w' ⟨s0, s1, s2, s3, s4, s5, s6⟩
             go_simp
             with_reducible rfl
            ·simp only [seval]
             rfl
            refine pu 22 80 ?_ ?_ rfl rfl (any_of HT_.out (by kernel_rfl)) (Or.inl ⟨by rfl, ?_⟩) ?_ ?_
            rotate_left 2
            ·intro w'
             go_simp
             with_reducible rfl
            ·simp only [seval]
             rfl
            refine pu 23 81 ?_ ?_ rfl rfl (any_of HT_.out (by kernel_rfl)) (Or.inl ⟨by rfl, ?_⟩) ?_ ?_
            rotate_left 2
            ·intro w'
             go_simp
             with_reducible rfl
            ·simp only [seval]
             rfl
            refine pu 24 82 ?_ ?_ rfl rfl (any_of HT_.out (by kernel_rfl)) (Or.inl ⟨by rfl, ?_⟩) ?_ ?_
            rotate_left 2
            ·intro w'
             go_simp
             with_reducible rfl
            ·simp only [seval]
             rfl
            refine done_ (done_of HT_.out (by kernel_rfl)) ?_
            try go_wp2
            go_meet
            case rel => exact ⟨_, (decide ((rd l3 x13_2) ≤ (rd l3 ji82))), (by rfl), H', ⟨by have := HJ5.out; have := HK2.out; omega⟩, ⟨by (with_reducible repeat (apply Kd.R_drewN)); exact HOz0.out⟩, ⟨by (with_reducible repeat (apply Kd.R_drewN)); exact HOz1.out⟩, ⟨by (with_reducible repeat (refine blk_drewN ?_ _)); exact BKz1.out⟩, ⟨by (with_reducible repeat (refine blk_drewN ?_ _)); exact BKz0.out⟩, ⟨by (with_reducible repeat (refine blk_drewN ?_ _)); exact BKz2.out⟩, ⟨by (with_reducible repeat (refine blk_drewN ?_ _)); exact BKz3.out⟩, ⟨by (with_reducible repeat (refine blk_drewN ?_ _)); exact BKz4.out⟩, ⟨by repeat (with_reducible first | exact HB.out | apply pw_below_drewN)⟩⟩
           rw [if_neg c84] at H
           exact absurd H (by simp)
          rw [if_neg c83] at H
          exact absurd H (by simp)
         rw [if_neg c81] at H
         have c81b0 : decide (0 < x13_2) = false := decide_eq_false c81
         clear c81
         have H' := mk H
         clear H
         try go_wp2
         replace HOz0 := mk (Kd.R_drew HOz0.out)
         replace HOz1 := mk (Kd.R_drew HOz1.out)
         replace BKz1 := mk (blk_drew BKz1.out)
         replace BKz0 := mk (blk_drew BKz0.out)
         replace BKz2 := mk (blk_drew BKz2.out)
         replace BKz3 := mk (blk_drew BKz3.out)
         replace BKz4 := mk (blk_drew BKz4.out)
         replace HB := mk (below_drew1 HB.out)
         have aF : 0 ≤ (x13_2 : Int) := of_decide_eq_true (by (with_reducible assumption))
         have aG : x13_2 < (l3.length : Int) := of_decide_eq_true (by (with_reducible assumption))
         obtain ⟨aH, aN, aC⟩ := Kd.at_int HR3.out x13_2 aF aG
         have aA := aC
         cases aN
         replace aC := (HB.out.cell (World.block_lt_of_cell? w _ aC)).trans aC
         replace aF := eq_true aF
         replace aG := eq_true aG
         refine start_ (n := 25) (S := fun w' => w'.cell? ⟨gbz1, 0, none⟩ = some (.int .i64 a1_0) ∧ w'.cell? ⟨gbz1, 1, none⟩ = some (.int .i64 a1_1) ∧ w'.cell? ⟨gbz1, 2, none⟩ = some (.int .i64 a1_2) ∧ w'.cell? ⟨gbz1, 3, none⟩ = some (.slice A1_3 l1_3.length c1_3) ∧ w'.cell? (aH.add (x13_2).toNat) = some (.int .i64 (rd l3 x13_2))) (ds := []) #[false, false, false, false, false, false, false, false, false, false, false, false, false, false, false, false, false, false, false, false, false, false, false, false, false] (by kernel_rfl) rfl rfl ⟨blk_cell BKz0.out 0, blk_cell BKz0.out 1, blk_cell BKz0.out 2, blk_cell BKz0.out 3, ((HB.out.cell (World.block_lt_of_cell? w _ aA)).trans aA)⟩ (fun hHeld => ?_); refine with_tabW spec_RedrawTiles.tab8 spec_RedrawTiles.bits8 (fun HT_ HW_ => ?_)
         generalize wr.drew = w87 at HOz0 HOz1 BKz1 BKz0 BKz2 BKz3 BKz4 HB aC hHeld ⊢
         refine pu 0 58 ?_ ?_ rfl rfl (any_of HT_.out (by kernel_rfl)) (Or.inl ⟨by rfl, ?_⟩) ?_ ?_
         rotate_left 2
         ·intro w'
          go_simp
          with_reducible rfl
         ·simp only [seval]
          rfl
         refine pu 1 59 ?_ ?_ rfl rfl (any_of HT_.out (by kernel_rfl)) (Or.inl ⟨by rfl, ?_⟩) ?_ ?_
         rotate_left 2
         ·intro w'
          go_simp
          with_reducible rfl
         ·simp only [seval]
          rfl
         refine pu 2 60 ?_ ?_ rfl rfl (any_of HT_.out (by kernel_rfl)) (Or.inl ⟨by rfl, ?_⟩) ?_ ?_
         rotate_left 2
         ·intro w'
          go_simp
          with_reducible rfl
         ·simp only [seval]
          rfl
         refine tk 3 61 ?_ ?_ rfl rfl (take_ofW HT_.out HW_.out (by kernel_rfl)) (Or.inl ⟨by rfl, ?_⟩) hHeld ?_ ?_
         rotate_left 2
         ·rintro w' ⟨s0, s1, s2, s3, s4⟩
          go_simp
          with_reducible rfl
         ·simp only [seval]
          rfl
         refine tk 4 62 ?_ ?_ rfl rfl (take_ofW HT_.out HW_.out (by kernel_rfl)) (Or.inl ⟨by rfl, ?_⟩) hHeld ?_ ?_
         rotate_left 2
         ·rintro w' ⟨s0, s1, s2, s3, s4⟩
          go_simp
          with_reducible rfl
         ·simp only [seval]
          rfl
         refine one_ (i := 5) (N := some 63) #[true, true, true, true, true, true, false, false, false, false, false, false, false, false, false, false, false, false, false, false, false, false, false, false, false] rfl rfl (one_of HT_.out (by kernel_rfl)) (by decide) (fun K hK => ?_)
         refine goes_ Try.func90 (by kernel_rfl) rfl #[.agg #[.int .i64 a1_0, .int .i64 a1_1, .int .i64 a1_2, .slice A1_3 l1_3.length c1_3]] (by rfl) rfl rfl (by (try simp only [bitvec_to_nat]); rfl) ?_
         with_reducible refine (spec_tileCount.calls a1_0 a1_1 a1_2 _ _ l1_3 tz11 _ ?side1 ?side2 A78.out).mono ?_
         (case side1 => repeat (exact (Kd.C_below HR1_3.out HB.out)))
         (case side2 => exact HC1_3.out)
         rintro e w88 ⟨rfl, hb⟩
         refine ⟨_, rfl, ?_⟩
         replace HOz0 := mk (Kd.R_below HOz0.out hb)
         replace HOz1 := mk (Kd.R_below HOz1.out hb)
         replace BKz1 := mk (blk_below BKz1.out hb)
         replace BKz0 := mk (blk_below BKz0.out hb)
         replace BKz2 := mk (blk_below BKz2.out hb)
         replace BKz3 := mk (blk_below BKz3.out hb)
         replace BKz4 := mk (blk_below BKz4.out hb)
         replace HB := mk (below_step HB.out hb)
         (try clear hb)
         refine hK.out _ _ ⟨blk_cell BKz0.out 0, blk_cell BKz0.out 1, blk_cell BKz0.out 2, blk_cell BKz0.out 3, ((HB.out.cell (World.block_lt_of_cell? w _ aA)).trans aA)⟩ (fun hHeld => ?_)
         clear hK K
         refine norm_ (a' := ?_) ?_ ?_
         rotate_left
         ·show Act.put _ (some 63) _ = _
          simp only [seval]
          rfl
         refine pu 6 64 ?_ ?_ rfl rfl (any_of HT_.out (by kernel_rfl)) (Or.inl ⟨by rfl, ?_⟩) ?_ ?_
         rotate_left 2
         ·intro w'
          go_simp
          with_reducible rfl
         ·simp only [seval]
          rfl
         refine one_ (i := 7) (N := some 65) #[true, true, true, true, true, true, true, true, false, false, false, false, false, false, false, false, false, false, false, false, false, false, false, false, false] rfl rfl (one_of HT_.out (by kernel_rfl)) (by decide) (fun K hK => ?_)
         refine goes_ Try.func110 (by kernel_rfl) rfl #[.int .i64 (rd l3 x13_2), .int .i64 0, .int .i64 (wrap64 (tz11 - 1))] (by rfl) rfl rfl (by (try simp only [bitvec_to_nat]); rfl) ?_
         with_reducible refine (spec_inRange.calls (rd l3 x13_2) 0 (wrap64 (tz11 - 1)) true _ A79.out).mono ?_
         rintro e w' ⟨rfl, ⟨nd, rfl⟩⟩
         refine ⟨_, rfl, ?_⟩
         refine hK.out _ _ ⟨blk_cell BKz0.out 0, blk_cell BKz0.out 1, blk_cell BKz0.out 2, blk_cell BKz0.out 3, ((HB.out.cell (World.block_lt_of_cell? w _ aA)).trans aA)⟩ (fun hHeld => ?_)
         clear hK K
         refine norm_ (a' := ?_) ?_ ?_
         rotate_left
         ·show Act.put _ (some 65) _ = _
          simp only [seval]
          rfl
         refine pu 8 66 ?_ ?_ rfl rfl (any_of HT_.out (by kernel_rfl)) (Or.inl ⟨by rfl, ?_⟩) ?_ ?_
         rotate_left 2
         ·intro w'
          go_simp
          with_reducible rfl
         ·simp only [seval]
          rfl
         refine pu 9 67 ?_ ?_ rfl rfl (any_of HT_.out (by kernel_rfl)) (Or.inl ⟨by rfl, ?_⟩) ?_ ?_
         rotate_left 2
         ·intro w'
          go_simp
          with_reducible rfl
         ·simp only [seval]
          rfl
         refine pu 10 68 ?_ ?_ rfl rfl (any_of HT_.out (by kernel_rfl)) (Or.inl ⟨by rfl, ?_⟩) ?_ ?_
         rotate_left 2
         ·intro w'
          go_simp
          with_reducible rfl
         ·simp only [seval]
          rfl
         refine pu 11 69 ?_ ?_ rfl rfl (any_of HT_.out (by kernel_rfl)) (Or.inl ⟨by rfl, ?_⟩) ?_ ?_
         rotate_left 2
         ·intro w'
          go_simp
          with_reducible rfl
         ·simp only [seval]
          rfl
         refine pu 12 70 ?_ ?_ rfl rfl (any_of HT_.out (by kernel_rfl)) (Or.inl ⟨by rfl, ?_⟩) ?_ ?_
         rotate_left 2
         ·intro w'
          go_simp
          with_reducible rfl
         ·simp only [seval]
          rfl
         refine pure_ (i := 13) (N := some 71) (v := undef) (a' := ?_) #[true, true, true, true, true, true, true, true, true, true, true, true, true, true, false, false, false, false, false, false, false, false, false, false, false] rfl rfl (any_of HT_.out (by kernel_rfl)) (fun _ _ _ h => h) (Or.inr ⟨by rfl, rfl⟩) ?_ ?_
         rotate_left
         ·simp only [seval]
          rfl
         refine pure_ (i := 14) (N := some 72) (v := undef) (a' := ?_) #[true, true, true, true, true, true, true, true, true, true, true, true, true, true, true, false, false, false, false, false, false, false, false, false, false] rfl rfl (any_of HT_.out (by kernel_rfl)) (fun _ _ _ h => h) (Or.inr ⟨by rfl, rfl⟩) ?_ ?_
         rotate_left
         ·simp only [seval]
          rfl
         refine pure_ (i := 15) (N := some 73) (v := undef) (a' := ?_) #[true, true, true, true, true, true, true, true, true, true, true, true, true, true, true, true, false, false, false, false, false, false, false, false, false] rfl rfl (any_of HT_.out (by kernel_rfl)) (fun _ _ _ h => h) (Or.inr ⟨by rfl, rfl⟩) ?_ ?_
         rotate_left
         ·simp only [seval]
          rfl
         refine pure_ (i := 16) (N := some 74) (v := undef) (a' := ?_) #[true, true, true, true, true, true, true, true, true, true, true, true, true, true, true, true, true, false, false, false, false, false, false, false, false] rfl rfl (any_of HT_.out (by kernel_rfl)) (fun _ _ _ h => h) (Or.inr ⟨by rfl, rfl⟩) ?_ ?_
         rotate_left
         ·simp only [seval]
          rfl
         refine pure_ (i := 17) (N := some 75) (v := undef) (a' := ?_) #[true, true, true, true, true, true, true, true, true, true, true, true, true, true, true, true, true, true, false, false, false, false, false, false, false] rfl rfl (any_of HT_.out (by kernel_rfl)) (fun _ _ _ h => h) (Or.inr ⟨by rfl, rfl⟩) ?_ ?_
         rotate_left
         ·simp only [seval]
          rfl
         refine pure_ (i := 18) (N := some 76) (v := undef) (a' := ?_) #[true, true, true, true, true, true, true, true, true, true, true, true, true, true, true, true, true, true, true, false, false, false, false, false, false] rfl rfl (any_of HT_.out (by kernel_rfl)) (fun _ _ _ h => h) (Or.inr ⟨by rfl, rfl⟩) ?_ ?_
         rotate_left
         ·simp only [seval]
          rfl
         refine pure_ (i := 19) (N := some 77) (v := undef) (a' := ?_) #[true, true, true, true, true, true, true, true, true, true, true, true, true, true, true, true, true, true, true, true, false, false, false, false, false] rfl rfl (any_of HT_.out (by kernel_rfl)) (fun _ _ _ h => h) (Or.inr ⟨by rfl, rfl⟩) ?_ ?_
         rotate_left
         ·simp only [seval]
          rfl
         refine pure_ (i := 20) (N := some 78) (v := undef) (a' := ?_) #[true, true, true, true, true, true, true, true, true, true, true, true, true, true, true, true, true, true, true, true, true, false, false, false, false] rfl rfl (any_of HT_.out (by kernel_rfl)) (fun _ _ _ h => h) (Or.inr ⟨by rfl, rfl⟩) ?_ ?_
         rotate_left
         ·simp only [seval]
          rfl
         refine pure_ (i := 21) (N := some 79) (v := undef) (a' := ?_) #[true, true, true, true, true, true, true, true, true, true, true, true, true, true, true, true, true, true, true, true, true, true, false, false, false] rfl rfl (any_of HT_.out (by kernel_rfl)) (fun _ _ _ h => h) (Or.inr ⟨by rfl, rfl⟩) ?_ ?_
         rotate_left
         ·simp only [seval]
          rfl
         refine pure_ (i := 22) (N := some 80) (v := undef) (a' := ?_) #[true, true, true, true, true, true, true, true, true, true, true, true, true, true, true, true, true, true, true, true, true, true, true, false, false] rfl rfl (any_of HT_.out (by kernel_rfl)) (fun _ _ _ h => h) (Or.inr ⟨by rfl, rfl⟩) ?_ ?_
         rotate_left
         ·simp only [seval]
          rfl
         refine pu 23 81 ?_ ?_ rfl rfl (any_of HT_.out (by kernel_rfl)) (Or.inl ⟨by rfl, ?_⟩) ?_ ?_
         rotate_left 2
         ·intro w'
          go_simp
          with_reducible rfl
         ·simp only [seval]
          rfl
         refine pu 24 82 ?_ ?_ rfl rfl (any_of HT_.out (by kernel_rfl)) (Or.inl ⟨by rfl, ?_⟩) ?_ ?_
         rotate_left 2
         ·intro w'
          go_simp
          with_reducible rfl
         ·simp only [seval]
          rfl
         refine done_ (done_of HT_.out (by kernel_rfl)) ?_
         try go_wp2
         go_meet
         case rel => exact ⟨_, (false), (by rfl), H', ⟨by have := HJ5.out; have := HK2.out; omega⟩, ⟨by (with_reducible repeat (apply Kd.R_drewN)); exact HOz0.out⟩, ⟨by (with_reducible repeat (apply Kd.R_drewN)); exact HOz1.out⟩, ⟨by (with_reducible repeat (refine blk_drewN ?_ _)); exact BKz1.out⟩, ⟨by (with_reducible repeat (refine blk_drewN ?_ _)); exact BKz0.out⟩, ⟨by (with_reducible repeat (refine blk_drewN ?_ _)); exact BKz2.out⟩, ⟨by (with_reducible repeat (refine blk_drewN ?_ _)); exact BKz3.out⟩, ⟨by (with_reducible repeat (refine blk_drewN ?_ _)); exact BKz4.out⟩, ⟨by repeat (with_reducible first | exact HB.out | apply pw_below_drewN)⟩⟩
        replace c80 := Bool.eq_false_iff.mpr c80
        subst c80
        have H1 : (spec_RedrawTiles.j2 k2 l3 x13_2 true a1_0 a1_1 a1_2 l1_3 tz0 tz1 tz2 xz0 tz3 tz4 tz6 xz1) = some (r1, r2, r3, r4, r5) := by rw [if_neg (show ¬ (false = true) by decide)] at H; exact H
        clear H
        have H := H1
        clear H1
        have H' := mk H
        clear H
        try go_wp2
        replace HOz0 := mk (Kd.R_drew HOz0.out)
        replace HOz1 := mk (Kd.R_drew HOz1.out)
        replace BKz1 := mk (blk_drew BKz1.out)
        replace BKz0 := mk (blk_drew BKz0.out)
        replace BKz2 := mk (blk_drew BKz2.out)
        replace BKz3 := mk (blk_drew BKz3.out)
        replace BKz4 := mk (blk_drew BKz4.out)
        replace HB := mk (below_drew1 HB.out)
        have aF : 0 ≤ (x13_2 : Int) := of_decide_eq_true (by (with_reducible assumption))
        have aG : x13_2 < (l3.length : Int) := of_decide_eq_true (by (with_reducible assumption))
        obtain ⟨aH, aN, aC⟩ := Kd.at_int HR3.out x13_2 aF aG
        have aA := aC
        cases aN
        replace aC := (HB.out.cell (World.block_lt_of_cell? w _ aC)).trans aC
        replace aF := eq_true aF
        replace aG := eq_true aG
        refine start_ (n := 25) (S := fun w' => w'.cell? ⟨gbz1, 0, none⟩ = some (.int .i64 a1_0) ∧ w'.cell? ⟨gbz1, 1, none⟩ = some (.int .i64 a1_1) ∧ w'.cell? ⟨gbz1, 2, none⟩ = some (.int .i64 a1_2) ∧ w'.cell? ⟨gbz1, 3, none⟩ = some (.slice A1_3 l1_3.length c1_3) ∧ w'.cell? (aH.add (x13_2).toNat) = some (.int .i64 (rd l3 x13_2))) (ds := []) #[false, false, false, false, false, false, false, false, false, false, false, false, false, false, false, false, false, false, false, false, false, false, false, false, false] (by kernel_rfl) rfl rfl ⟨blk_cell BKz0.out 0, blk_cell BKz0.out 1, blk_cell BKz0.out 2, blk_cell BKz0.out 3, ((HB.out.cell (World.block_lt_of_cell? w _ aA)).trans aA)⟩ (fun hHeld => ?_); refine with_tabW spec_RedrawTiles.tab8 spec_RedrawTiles.bits8 (fun HT_ HW_ => ?_)
        generalize wr.drew = w89 at HOz0 HOz1 BKz1 BKz0 BKz2 BKz3 BKz4 HB aC hHeld ⊢
        refine pu 0 58 ?_ ?_ rfl rfl (any_of HT_.out (by kernel_rfl)) (Or.inl ⟨by rfl, ?_⟩) ?_ ?_
        rotate_left 2
        ·intro w'
         go_simp
         with_reducible rfl
        ·simp only [seval]
         rfl
        refine pu 1 59 ?_ ?_ rfl rfl (any_of HT_.out (by kernel_rfl)) (Or.inl ⟨by rfl, ?_⟩) ?_ ?_
        rotate_left 2
        ·intro w'
         go_simp
         with_reducible rfl
        ·simp only [seval]
         rfl
        refine pu 2 60 ?_ ?_ rfl rfl (any_of HT_.out (by kernel_rfl)) (Or.inl ⟨by rfl, ?_⟩) ?_ ?_
        rotate_left 2
        ·intro w'
         go_simp
         with_reducible rfl
        ·simp only [seval]
         rfl
        refine tk 3 61 ?_ ?_ rfl rfl (take_ofW HT_.out HW_.out (by kernel_rfl)) (Or.inl ⟨by rfl, ?_⟩) hHeld ?_ ?_
        rotate_left 2
        ·rintro w' ⟨s0, s1, s2, s3, s4⟩
         go_simp
         with_reducible rfl
        ·simp only [seval]
         rfl
        refine tk 4 62 ?_ ?_ rfl rfl (take_ofW HT_.out HW_.out (by kernel_rfl)) (Or.inl ⟨by rfl, ?_⟩) hHeld ?_ ?_
        rotate_left 2
        ·rintro w' ⟨s0, s1, s2, s3, s4⟩
         go_simp
         with_reducible rfl
        ·simp only [seval]
         rfl
        refine one_ (i := 5) (N := some 63) #[true, true, true, true, true, true, false, false, false, false, false, false, false, false, false, false, false, false, false, false, false, false, false, false, false] rfl rfl (one_of HT_.out (by kernel_rfl)) (by decide) (fun K hK => ?_)
        refine goes_ Try.func90 (by kernel_rfl) rfl #[.agg #[.int .i64 a1_0, .int .i64 a1_1, .int .i64 a1_2, .slice A1_3 l1_3.length c1_3]] (by rfl) rfl rfl (by (try simp only [bitvec_to_nat]); rfl) ?_
        with_reducible refine (spec_tileCount.calls a1_0 a1_1 a1_2 _ _ l1_3 tz11 _ ?side1 ?side2 A78.out).mono ?_
        (case side1 => repeat (exact (Kd.C_below HR1_3.out HB.out)))
        (case side2 => exact HC1_3.out)
        rintro e w90 ⟨rfl, hb⟩
        refine ⟨_, rfl, ?_⟩
        replace HOz0 := mk (Kd.R_below HOz0.out hb)
        replace HOz1 := mk (Kd.R_below HOz1.out hb)
        replace BKz1 := mk (blk_below BKz1.out hb)
        replace BKz0 := mk (blk_below BKz0.out hb)
        replace BKz2 := mk (blk_below BKz2.out hb)
        replace BKz3 := mk (blk_below BKz3.out hb)
        replace BKz4 := mk (blk_below BKz4.out hb)
        replace HB := mk (below_step HB.out hb)
        (try clear hb)
        refine hK.out _ _ ⟨blk_cell BKz0.out 0, blk_cell BKz0.out 1, blk_cell BKz0.out 2, blk_cell BKz0.out 3, ((HB.out.cell (World.block_lt_of_cell? w _ aA)).trans aA)⟩ (fun hHeld => ?_)
        clear hK K
        refine norm_ (a' := ?_) ?_ ?_
        rotate_left
        ·show Act.put _ (some 63) _ = _
         simp only [seval]
         rfl
        refine pu 6 64 ?_ ?_ rfl rfl (any_of HT_.out (by kernel_rfl)) (Or.inl ⟨by rfl, ?_⟩) ?_ ?_
        rotate_left 2
        ·intro w'
         go_simp
         with_reducible rfl
        ·simp only [seval]
         rfl
        refine one_ (i := 7) (N := some 65) #[true, true, true, true, true, true, true, true, false, false, false, false, false, false, false, false, false, false, false, false, false, false, false, false, false] rfl rfl (one_of HT_.out (by kernel_rfl)) (by decide) (fun K hK => ?_)
        refine goes_ Try.func110 (by kernel_rfl) rfl #[.int .i64 (rd l3 x13_2), .int .i64 0, .int .i64 (wrap64 (tz11 - 1))] (by rfl) rfl rfl (by (try simp only [bitvec_to_nat]); rfl) ?_
        with_reducible refine (spec_inRange.calls (rd l3 x13_2) 0 (wrap64 (tz11 - 1)) false _ A79.out).mono ?_
        rintro e w' ⟨rfl, ⟨nd, rfl⟩⟩
        refine ⟨_, rfl, ?_⟩
        refine hK.out _ _ ⟨blk_cell BKz0.out 0, blk_cell BKz0.out 1, blk_cell BKz0.out 2, blk_cell BKz0.out 3, ((HB.out.cell (World.block_lt_of_cell? w _ aA)).trans aA)⟩ (fun hHeld => ?_)
        clear hK K
        refine norm_ (a' := ?_) ?_ ?_
        rotate_left
        ·show Act.put _ (some 65) _ = _
         simp only [seval]
         rfl
        refine pu 8 66 ?_ ?_ rfl rfl (any_of HT_.out (by kernel_rfl)) (Or.inl ⟨by rfl, ?_⟩) ?_ ?_
        rotate_left 2
        ·intro w'
         go_simp
         with_reducible rfl
        ·simp only [seval]
         rfl
        refine pu 9 67 ?_ ?_ rfl rfl (any_of HT_.out (by kernel_rfl)) (Or.inl ⟨by rfl, ?_⟩) ?_ ?_
        rotate_left 2
        ·intro w'
         go_simp
         with_reducible rfl
        ·simp only [seval]
         rfl
        refine pure_ (i := 10) (N := some 68) (v := undef) (a' := ?_) #[true, true, true, true, true, true, true, true, true, true, true, false, false, false, false, false, false, false, false, false, false, false, false, false, false] rfl rfl (any_of HT_.out (by kernel_rfl)) (fun _ _ _ h => h) (Or.inr ⟨by rfl, rfl⟩) ?_ ?_
        rotate_left
        ·simp only [seval]
         rfl
        refine pure_ (i := 11) (N := some 69) (v := undef) (a' := ?_) #[true, true, true, true, true, true, true, true, true, true, true, true, false, false, false, false, false, false, false, false, false, false, false, false, false] rfl rfl (any_of HT_.out (by kernel_rfl)) (fun _ _ _ h => h) (Or.inr ⟨by rfl, rfl⟩) ?_ ?_
        rotate_left
        ·simp only [seval]
         rfl
        refine pure_ (i := 12) (N := some 70) (v := undef) (a' := ?_) #[true, true, true, true, true, true, true, true, true, true, true, true, true, false, false, false, false, false, false, false, false, false, false, false, false] rfl rfl (any_of HT_.out (by kernel_rfl)) (fun _ _ _ h => h) (Or.inr ⟨by rfl, rfl⟩) ?_ ?_
        rotate_left
        ·simp only [seval]
         rfl
        refine pure_ (i := 13) (N := some 71) (v := undef) (a' := ?_) #[true, true, true, true, true, true, true, true, true, true, true, true, true, true, false, false, false, false, false, false, false, false, false, false, false] rfl rfl (any_of HT_.out (by kernel_rfl)) (fun _ _ _ h => h) (Or.inr ⟨by rfl, rfl⟩) ?_ ?_
        rotate_left
        ·simp only [seval]
         rfl
        refine pure_ (i := 14) (N := some 72) (v := undef) (a' := ?_) #[true, true, true, true, true, true, true, true, true, true, true, true, true, true, true, false, false, false, false, false, false, false, false, false, false] rfl rfl (any_of HT_.out (by kernel_rfl)) (fun _ _ _ h => h) (Or.inr ⟨by rfl, rfl⟩) ?_ ?_
        rotate_left
        ·simp only [seval]
         rfl
        refine pure_ (i := 15) (N := some 73) (v := undef) (a' := ?_) #[true, true, true, true, true, true, true, true, true, true, true, true, true, true, true, true, false, false, false, false, false, false, false, false, false] rfl rfl (any_of HT_.out (by kernel_rfl)) (fun _ _ _ h => h) (Or.inr ⟨by rfl, rfl⟩) ?_ ?_
        rotate_left
        ·simp only [seval]
         rfl
        refine pure_ (i := 16) (N := some 74) (v := undef) (a' := ?_) #[true, true, true, true, true, true, true, true, true, true, true, true, true, true, true, true, true, false, false, false, false, false, false, false, false] rfl rfl (any_of HT_.out (by kernel_rfl)) (fun _ _ _ h => h) (Or.inr ⟨by rfl, rfl⟩) ?_ ?_
        rotate_left
        ·simp only [seval]
         rfl
        refine pure_ (i := 17) (N := some 75) (v := undef) (a' := ?_) #[true, true, true, true, true, true, true, true, true, true, true, true, true, true, true, true, true, true, false, false, false, false, false, false, false] rfl rfl (any_of HT_.out (by kernel_rfl)) (fun _ _ _ h => h) (Or.inr ⟨by rfl, rfl⟩) ?_ ?_
        rotate_left
        ·simp only [seval]
         rfl
        refine pure_ (i := 18) (N := some 76) (v := undef) (a' := ?_) #[true, true, true, true, true, true, true, true, true, true, true, true, true, true, true, true, true, true, true, false, false, false, false, false, false] rfl rfl (any_of HT_.out (by kernel_rfl)) (fun _ _ _ h => h) (Or.inr ⟨by rfl, rfl⟩) ?_ ?_
        rotate_left
        ·simp only [seval]
         rfl
        refine pure_ (i := 19) (N := some 77) (v := undef) (a' := ?_) #[true, true, true, true, true, true, true, true, true, true, true, true, true, true, true, true, true, true, true, true, false, false, false, false, false] rfl rfl (any_of HT_.out (by kernel_rfl)) (fun _ _ _ h => h) (Or.inr ⟨by rfl, rfl⟩) ?_ ?_
        rotate_left
        ·simp only [seval]
         rfl
        refine pure_ (i := 20) (N := some 78) (v := undef) (a' := ?_) #[true, true, true, true, true, true, true, true, true, true, true, true, true, true, true, true, true, true, true, true, true, false, false, false, false] rfl rfl (any_of HT_.out (by kernel_rfl)) (fun _ _ _ h => h) (Or.inr ⟨by rfl, rfl⟩) ?_ ?_
        rotate_left
        ·simp only [seval]
         rfl
        refine pure_ (i := 21) (N := some 79) (v := undef) (a' := ?_) #[true, true, true, true, true, true, true, true, true, true, true, true, true, true, true, true, true, true, true, true, true, true, false, false, false] rfl rfl (any_of HT_.out (by kernel_rfl)) (fun _ _ _ h => h) (Or.inr ⟨by rfl, rfl⟩) ?_ ?_
        rotate_left
        ·simp only [seval]
         rfl
        refine pure_ (i := 22) (N := some 80) (v := undef) (a' := ?_) #[true, true, true, true, true, true, true, true, true, true, true, true, true, true, true, true, true, true, true, true, true, true, true, false, false] rfl rfl (any_of HT_.out (by kernel_rfl)) (fun _ _ _ h => h) (Or.inr ⟨by rfl, rfl⟩) ?_ ?_
        rotate_left
        ·simp only [seval]
         rfl
        refine pure_ (i := 23) (N := some 81) (v := undef) (a' := ?_) #[true, true, true, true, true, true, true, true, true, true, true, true, true, true, true, true, true, true, true, true, true, true, true, true, false] rfl rfl (any_of HT_.out (by kernel_rfl)) (fun _ _ _ h => h) (Or.inr ⟨by rfl, rfl⟩) ?_ ?_
        rotate_left
        ·simp only [seval]
         rfl
        refine pu 24 82 ?_ ?_ rfl rfl (any_of HT_.out (by kernel_rfl)) (Or.inl ⟨by rfl, ?_⟩) ?_ ?_
        rotate_left 2
        ·intro w'
         go_simp
         with_reducible rfl
        ·simp only [seval]
         rfl
        refine done_ (done_of HT_.out (by kernel_rfl)) ?_
        try go_wp2
        go_meet
        case rel => exact ⟨_, (true), (by rfl), H', ⟨by have := HJ5.out; have := HK2.out; omega⟩, ⟨by (with_reducible repeat (apply Kd.R_drewN)); exact HOz0.out⟩, ⟨by (with_reducible repeat (apply Kd.R_drewN)); exact HOz1.out⟩, ⟨by (with_reducible repeat (refine blk_drewN ?_ _)); exact BKz1.out⟩, ⟨by (with_reducible repeat (refine blk_drewN ?_ _)); exact BKz0.out⟩, ⟨by (with_reducible repeat (refine blk_drewN ?_ _)); exact BKz2.out⟩, ⟨by (with_reducible repeat (refine blk_drewN ?_ _)); exact BKz3.out⟩, ⟨by (with_reducible repeat (refine blk_drewN ?_ _)); exact BKz4.out⟩, ⟨by repeat (with_reducible first | exact HB.out | apply pw_below_drewN)⟩⟩
       rw [if_neg c77] at H
       exact absurd H (by simp)
      case rest =>
       clear HC76
       obtain ⟨kq, x82_75, rfl, HA, HJ75, HOz0, HOz1, BKz1, BKz0, BKz2, BKz3, BKz4, HB⟩ := hcut
       cases kq with
       | zero => exact absurd HA.out (by simp [spec_RedrawTiles.j2])
       | succ kj75 =>
        have H := HA.out
        clear HA
        simp only [spec_RedrawTiles.j2] at H
        by_cases c91 : x82_75 = true
        ·subst c91
         have H1 : (some (0, 0, 0, ([] : List Int), false)) = some (r1, r2, r3, r4, r5) := by rw [if_pos rfl] at H; exact H
         clear H
         have H := H1
         clear H1
         simp only [Option.some.injEq, Prod.mk.injEq] at H
         obtain ⟨rfl, rfl, rfl, rfl, rfl⟩ := H
         obtain ⟨hcz96_0, hcz96_1, hcz96_2, hcz96_3, hfz96_0, hfz96_1, hfz96_2, hfz96_3⟩ := c4 BKz2.out
         go_wp2
         refine bodyPost_ret (results_ct rfl _ _ gbz4 27 #[.int .i64 0, .int .i64 0, .int .i64 0, .slice none 0 0] (0, 0) _ rfl (by refine p4 (.int .i64 xz4) (.int .i64 xz3) (.int .i64 xz2) (.slice none 0 0) ?_; exact BKz2.out) Try.underlying27 rfl (by kernel_rfl)) rfl ?_
         exact ⟨_, by rfl, by exact Kd.R_nil _ _ _ _ _, by repeat (with_reducible first | exact HB.out | refine below_set ?_ GEz2.out)⟩
        replace c91 := Bool.eq_false_iff.mpr c91
        subst c91
        have H1 : (if 0 ≤ x13_2 then (if x13_2 < (l3.length : Int) then ((spec_tileBox.f a1_0 a1_1 a1_2 l1_3 (rd l3 x13_2)).bind fun btz2 => ((spec_crop.f kj75 tz0 tz1 tz2 xz0 btz2.1 btz2.2.1 btz2.2.2.1 btz2.2.2.2).bind fun btz1 => ((spec_paste.f kj75 tz3 tz4 tz6 xz1 btz2.1 btz2.2.1 btz1.1 btz1.2.1 btz1.2.2.1 btz1.2.2.2).bind fun tz12 => (spec_RedrawTiles.l0 kj75 l3 (wrap64 (x13_2 + 1)) a1_0 a1_1 a1_2 l1_3 tz0 tz1 tz2 xz0 tz3 tz4 tz6 tz12)))) else none) else none) = some (r1, r2, r3, r4, r5) := by rw [if_neg (show ¬ (false = true) by decide)] at H; exact H
        clear H
        have H := H1
        clear H1
        by_cases c97 : 0 ≤ x13_2
        ·rw [if_pos c97] at H
         have c97b0 : decide (0 ≤ x13_2) = true := decide_eq_true c97
         clear c97
         by_cases c98 : x13_2 < (l3.length : Int)
         ·rw [if_pos c98] at H
          have c98b0 : decide (x13_2 < (l3.length : Int)) = true := decide_eq_true c98
          clear c98
          replace H := Option.bind_eq_some_iff.mp H
          obtain ⟨⟨tz7, tz8, tz9, tz10⟩, A990, H⟩ := H
          dsimp only at H
          have A99 := mk A990
          clear A990
          replace H := Option.bind_eq_some_iff.mp H
          obtain ⟨⟨tz17, tz18, tz19, tz16⟩, A1000, H⟩ := H
          dsimp only at H
          have A100 := mk A1000
          clear A1000
          replace H := Option.bind_eq_some_iff.mp H
          obtain ⟨tz12, A1010, H⟩ := H
          replace H : (spec_RedrawTiles.l0 kj75 l3 (wrap64 (x13_2 + 1)) a1_0 a1_1 a1_2 l1_3 tz0 tz1 tz2 xz0 tz3 tz4 tz6 tz12) = some (r1, r2, r3, r4, r5) := H
          have A101 := mk A1010
          clear A1010
          have H' := mk H
          clear H
          try go_wp2
          replace HOz0 := mk (Kd.R_drew HOz0.out)
          replace HOz1 := mk (Kd.R_drew HOz1.out)
          replace BKz1 := mk (blk_drew BKz1.out)
          replace BKz0 := mk (blk_drew BKz0.out)
          replace BKz2 := mk (blk_drew BKz2.out)
          replace BKz3 := mk (blk_drew BKz3.out)
          replace BKz4 := mk (blk_drew BKz4.out)
          replace HB := mk (below_drew1 HB.out)
          have aT : 0 ≤ (x13_2 : Int) := of_decide_eq_true (by (with_reducible assumption))
          have aU : x13_2 < (l3.length : Int) := of_decide_eq_true (by (with_reducible assumption))
          obtain ⟨aO, aZ, aM⟩ := Kd.at_int HR3.out x13_2 aT aU
          have aE := aM
          cases aZ
          replace aM := (HB.out.cell (World.block_lt_of_cell? w _ aM)).trans aM
          replace aT := eq_true aT
          replace aU := eq_true aU
          refine start_ (n := 8) (S := fun w' => w'.cell? ⟨gbz1, 0, none⟩ = some (.int .i64 a1_0) ∧ w'.cell? ⟨gbz1, 1, none⟩ = some (.int .i64 a1_1) ∧ w'.cell? ⟨gbz1, 2, none⟩ = some (.int .i64 a1_2) ∧ w'.cell? ⟨gbz1, 3, none⟩ = some (.slice A1_3 l1_3.length c1_3) ∧ w'.cell? (aO.add (x13_2).toNat) = some (.int .i64 (rd l3 x13_2))) (ds := []) #[false, false, false, false, false, false, false, false] (by kernel_rfl) rfl rfl ⟨blk_cell BKz0.out 0, blk_cell BKz0.out 1, blk_cell BKz0.out 2, blk_cell BKz0.out 3, ((HB.out.cell (World.block_lt_of_cell? w _ aE)).trans aE)⟩ (fun hHeld => ?_); refine with_tabW spec_RedrawTiles.tab10 spec_RedrawTiles.bits10 (fun HT_ HW_ => ?_)
          generalize wc.drew = w102 at HOz0 HOz1 BKz1 BKz0 BKz2 BKz3 BKz4 HB aM hHeld ⊢
          refine pu 1 85 ?_ ?_ rfl rfl (any_of HT_.out (by kernel_rfl)) (Or.inl ⟨by rfl, ?_⟩) ?_ ?_
          rotate_left 2
          ·intro w'
           go_simp
           with_reducible rfl
          ·simp only [seval]
           rfl
          refine pu 2 86 ?_ ?_ rfl rfl (any_of HT_.out (by kernel_rfl)) (Or.inl ⟨by rfl, ?_⟩) ?_ ?_
          rotate_left 2
          ·intro w'
           go_simp
           with_reducible rfl
          ·simp only [seval]
           rfl
          refine pu 3 87 ?_ ?_ rfl rfl (any_of HT_.out (by kernel_rfl)) (Or.inl ⟨by rfl, ?_⟩) ?_ ?_
          rotate_left 2
          ·intro w'
           go_simp
           with_reducible rfl
          ·simp only [seval]
           rfl
          refine tk 0 84 ?_ ?_ rfl rfl (take_ofW HT_.out HW_.out (by kernel_rfl)) (Or.inl ⟨by rfl, ?_⟩) hHeld ?_ ?_
          rotate_left 2
          ·rintro w' ⟨s0, s1, s2, s3, s4⟩
           go_simp
           with_reducible rfl
          ·simp only [seval]
           rfl
          refine tk 4 88 ?_ ?_ rfl rfl (take_ofW HT_.out HW_.out (by kernel_rfl)) (Or.inl ⟨by rfl, ?_⟩) hHeld ?_ ?_
          rotate_left 2
          ·rintro w' ⟨s0, s1, s2, s3, s4⟩
           go_simp
           with_reducible rfl
          ·simp only [seval]
           rfl
          refine join_ (σ := Nat) 1 #[true, true, true, true, true, true, true, false] (fun s_ => [(89, .agg #[.int .i64 tz7, .int .i64 tz8, .int .i64 tz9, .int .i64 tz10]), (14, .pointer (some ⟨s_, 0, none⟩))]) (fun s_ w' => (w'.cell? ⟨gbz1, 0, none⟩ = some (.int .i64 a1_0) ∧ w'.cell? ⟨gbz1, 1, none⟩ = some (.int .i64 a1_1) ∧ w'.cell? ⟨gbz1, 2, none⟩ = some (.int .i64 a1_2) ∧ w'.cell? ⟨gbz1, 3, none⟩ = some (.slice A1_3 l1_3.length c1_3) ∧ w'.cell? (aO.add (x13_2).toNat) = some (.int .i64 (rd l3 x13_2))) ∧ (Kd.R (Kd.int .i64) 3 w' w.heap.size (fun k_ => some k_ ≠ (aB : Value).ownBlock) aD xz0) ∧ (Kd.R (Kd.int .i64) 3 w' w.heap.size (fun k_ => some k_ ≠ (aD : Value).ownBlock) aB xz1) ∧ (w'.heap[gbz3]? = some (.cells #[.int .i64 a0_0, .int .i64 a0_1, .int .i64 a0_2, .slice A0_3 l0_3.length c0_3] 27 (0, 0))) ∧ (w'.heap[gbz1]? = some (.cells #[.int .i64 a1_0, .int .i64 a1_1, .int .i64 a1_2, .slice A1_3 l1_3.length c1_3] 27 (0, 0))) ∧ (w'.heap[gbz4]? = some (.cells #[.int .i64 xz4, .int .i64 xz3, .int .i64 xz2, .slice none 0 0] 27 (0, 0))) ∧ (w'.heap[gbz2]? = some (.cells #[.int .i64 tz0, .int .i64 tz1, .int .i64 tz2, aD] 27 (0, 0))) ∧ (w'.heap[gbz5]? = some (.cells #[.int .i64 tz3, .int .i64 tz4, .int .i64 tz6, aB] 27 (0, 0))) ∧ (w'.heap[s_]? = some (.cells #[.int .i64 0, .int .i64 0, .int .i64 0, .int .i64 0] 47 (0, 0))) ∧ (w.heap.size ≤ s_) ∧ (w.heap.size ≤ s_) ∧ (gbz3 ≠ s_) ∧ (s_ ≠ gbz3) ∧ (gbz1 ≠ s_) ∧ (s_ ≠ gbz1) ∧ (gbz4 ≠ s_) ∧ (s_ ≠ gbz4) ∧ (gbz2 ≠ s_) ∧ (s_ ≠ gbz2) ∧ (gbz5 ≠ s_) ∧ (s_ ≠ gbz5) ∧ (Below w.heap.size w w')) ?_ ?_
          rotate_left
          ·intro hCont
           refine two_ (i := 5) (j := 6) (Ni := some 89) (Nj := some 14) #[true, true, true, true, true, true, false, false] #[true, true, true, true, true, false, true, false] rfl rfl rfl rfl (two_of HT_.out (by kernel_rfl)) (by decide) (by decide) (fun K hK => ?_) (fun K hK => ?_)
           ·skip
            refine goes_ Try.func91 (by kernel_rfl) rfl #[.agg #[.int .i64 a1_0, .int .i64 a1_1, .int .i64 a1_2, .slice A1_3 l1_3.length c1_3], .int .i64 (rd l3 x13_2)] (by rfl) rfl rfl (by (try simp only [bitvec_to_nat]); rfl) ?_
            with_reducible refine (spec_tileBox.calls a1_0 a1_1 a1_2 _ _ l1_3 (rd l3 x13_2) tz7 tz8 tz9 tz10 _ ?side1 ?side2 A99.out).mono ?_
            (case side1 => repeat (exact (Kd.C_below HR1_3.out HB.out)))
            (case side2 => exact HC1_3.out)
            rintro e w103 ⟨rfl, hb⟩
            refine ⟨_, rfl, ?_⟩
            replace HOz0 := mk (Kd.R_below HOz0.out hb)
            replace HOz1 := mk (Kd.R_below HOz1.out hb)
            replace BKz1 := mk (blk_below BKz1.out hb)
            replace BKz0 := mk (blk_below BKz0.out hb)
            replace BKz2 := mk (blk_below BKz2.out hb)
            replace BKz3 := mk (blk_below BKz3.out hb)
            replace BKz4 := mk (blk_below BKz4.out hb)
            replace HB := mk (below_step HB.out hb)
            (try clear hb)
            refine hK.out _ _ ⟨blk_cell BKz0.out 0, blk_cell BKz0.out 1, blk_cell BKz0.out 2, blk_cell BKz0.out 3, ((HB.out.cell (World.block_lt_of_cell? w _ aE)).trans aE)⟩ (fun hHeld => ?_)
            clear hK K
            refine norm_ (a' := ?_) ?_ ?_
            rotate_left
            ·show Act.put _ (some 89) _ = _
             simp only [seval]
             rfl
            refine one_ (i := 6) (N := some 14) #[true, true, true, true, true, true, true, false] rfl rfl (one_of HT_.out (by kernel_rfl)) (by decide) (fun K hK => ?_)
            refine box_step ?hg (N := 14) ?hd (cs := #[.int .i64 0, .int .i64 0, .int .i64 0, .int .i64 0]) (t := 47) ?hr ?_; (case hd => rfl); (case hg => rfl); (case hr => (go_simp; done))
            intro gbz0 hg w104 hbox hb
            replace HOz0 := mk (Kd.R_below HOz0.out hb)
            replace HOz1 := mk (Kd.R_below HOz1.out hb)
            have BKz5 := mk (hbox)
            have GWz0 := mk ((by rw [hg]; exact (below_size HB.out) : w.heap.size ≤ gbz0))
            have GEz1 := mk ((by rw [hg]; exact (below_size HB.out) : w.heap.size ≤ gbz0))
            replace HB := mk (below_step HB.out hb)
            have NBz4 := mk ((by rw [hg]; exact Nat.ne_of_lt (blk_lt BKz1.out) : gbz3 ≠ gbz0))
            replace BKz1 := mk (blk_below BKz1.out hb)
            have NBz8 := mk NBz4.out.symm
            have NBz0 := mk ((by rw [hg]; exact Nat.ne_of_lt (blk_lt BKz0.out) : gbz1 ≠ gbz0))
            replace BKz0 := mk (blk_below BKz0.out hb)
            have NBz9 := mk NBz0.out.symm
            have NBz5 := mk ((by rw [hg]; exact Nat.ne_of_lt (blk_lt BKz2.out) : gbz4 ≠ gbz0))
            replace BKz2 := mk (blk_below BKz2.out hb)
            have NBz10 := mk NBz5.out.symm
            have NBz6 := mk ((by rw [hg]; exact Nat.ne_of_lt (blk_lt BKz3.out) : gbz2 ≠ gbz0))
            replace BKz3 := mk (blk_below BKz3.out hb)
            have NBz11 := mk NBz6.out.symm
            have NBz7 := mk ((by rw [hg]; exact Nat.ne_of_lt (blk_lt BKz4.out) : gbz5 ≠ gbz0))
            replace BKz4 := mk (blk_below BKz4.out hb)
            have NBz12 := mk NBz7.out.symm
            clear hb hbox hg
            refine hK.out _ _ ⟨blk_cell BKz0.out 0, blk_cell BKz0.out 1, blk_cell BKz0.out 2, blk_cell BKz0.out 3, ((HB.out.cell (World.block_lt_of_cell? w _ aE)).trans aE)⟩ (fun hHeld => ?_)
            clear hK K
            refine norm_ (a' := ?_) ?_ ?_
            rotate_left
            ·show Act.put _ (some 14) _ = _
             simp only [seval]
             rfl
            exact norm_ (by simp only [putAll, Act.put, List.setIfInBounds_toArray, List.set_cons_zero, List.set_cons_succ]) (hCont gbz0 _ ⟨hHeld, HOz0.out, HOz1.out, BKz1.out, BKz0.out, BKz2.out, BKz3.out, BKz4.out, BKz5.out, GWz0.out, GEz1.out, NBz4.out, NBz8.out, NBz0.out, NBz9.out, NBz5.out, NBz10.out, NBz6.out, NBz11.out, NBz7.out, NBz12.out, (HB.out)⟩)
           skip
           refine box_step ?hg (N := 14) ?hd (cs := #[.int .i64 0, .int .i64 0, .int .i64 0, .int .i64 0]) (t := 47) ?hr ?_; (case hd => rfl); (case hg => rfl); (case hr => (go_simp; done))
           intro gbz0 hg w103 hbox hb
           replace HOz0 := mk (Kd.R_below HOz0.out hb)
           replace HOz1 := mk (Kd.R_below HOz1.out hb)
           have BKz5 := mk (hbox)
           have GWz0 := mk ((by rw [hg]; exact (below_size HB.out) : w.heap.size ≤ gbz0))
           have GEz1 := mk ((by rw [hg]; exact (below_size HB.out) : w.heap.size ≤ gbz0))
           replace HB := mk (below_step HB.out hb)
           have NBz4 := mk ((by rw [hg]; exact Nat.ne_of_lt (blk_lt BKz1.out) : gbz3 ≠ gbz0))
           replace BKz1 := mk (blk_below BKz1.out hb)
           have NBz8 := mk NBz4.out.symm
           have NBz0 := mk ((by rw [hg]; exact Nat.ne_of_lt (blk_lt BKz0.out) : gbz1 ≠ gbz0))
           replace BKz0 := mk (blk_below BKz0.out hb)
           have NBz9 := mk NBz0.out.symm
           have NBz5 := mk ((by rw [hg]; exact Nat.ne_of_lt (blk_lt BKz2.out) : gbz4 ≠ gbz0))
           replace BKz2 := mk (blk_below BKz2.out hb)
           have NBz10 := mk NBz5.out.symm
           have NBz6 := mk ((by rw [hg]; exact Nat.ne_of_lt (blk_lt BKz3.out) : gbz2 ≠ gbz0))
           replace BKz3 := mk (blk_below BKz3.out hb)
           have NBz11 := mk NBz6.out.symm
           have NBz7 := mk ((by rw [hg]; exact Nat.ne_of_lt (blk_lt BKz4.out) : gbz5 ≠ gbz0))
           replace BKz4 := mk (blk_below BKz4.out hb)
           have NBz12 := mk NBz7.out.symm
           clear hb hbox hg
           refine hK.out _ _ ⟨blk_cell BKz0.out 0, blk_cell BKz0.out 1, blk_cell BKz0.out 2, blk_cell BKz0.out 3, ((HB.out.cell (World.block_lt_of_cell? w _ aE)).trans aE)⟩ (fun hHeld => ?_)
           clear hK K
           refine norm_ (a' := ?_) ?_ ?_
           rotate_left
           ·show Act.put _ (some 14) _ = _
            simp only [seval]
            rfl
           refine one_ (i := 5) (N := some 89) #[true, true, true, true, true, true, true, false] rfl rfl (one_of HT_.out (by kernel_rfl)) (by decide) (fun K hK => ?_)
           refine goes_ Try.func91 (by kernel_rfl) rfl #[.agg #[.int .i64 a1_0, .int .i64 a1_1, .int .i64 a1_2, .slice A1_3 l1_3.length c1_3], .int .i64 (rd l3 x13_2)] (by rfl) rfl rfl (by (try simp only [bitvec_to_nat]); rfl) ?_
           with_reducible refine (spec_tileBox.calls a1_0 a1_1 a1_2 _ _ l1_3 (rd l3 x13_2) tz7 tz8 tz9 tz10 _ ?side1 ?side2 A99.out).mono ?_
           (case side1 => repeat (exact (Kd.C_below HR1_3.out HB.out)))
           (case side2 => exact HC1_3.out)
           rintro e w104 ⟨rfl, hb⟩
           refine ⟨_, rfl, ?_⟩
           replace HOz0 := mk (Kd.R_below HOz0.out hb)
           replace HOz1 := mk (Kd.R_below HOz1.out hb)
           replace BKz1 := mk (blk_below BKz1.out hb)
           replace BKz0 := mk (blk_below BKz0.out hb)
           replace BKz2 := mk (blk_below BKz2.out hb)
           replace BKz3 := mk (blk_below BKz3.out hb)
           replace BKz4 := mk (blk_below BKz4.out hb)
           replace BKz5 := mk (blk_below BKz5.out hb)
           replace HB := mk (below_step HB.out hb)
           (try clear hb)
           refine hK.out _ _ ⟨blk_cell BKz0.out 0, blk_cell BKz0.out 1, blk_cell BKz0.out 2, blk_cell BKz0.out 3, ((HB.out.cell (World.block_lt_of_cell? w _ aE)).trans aE)⟩ (fun hHeld => ?_)
           clear hK K
           refine norm_ (a' := ?_) ?_ ?_
           rotate_left
           ·show Act.put _ (some 89) _ = _
            simp only [seval]
            rfl
           exact norm_ (by simp only [putAll, Act.put, List.setIfInBounds_toArray, List.set_cons_zero, List.set_cons_succ]) (hCont gbz0 _ ⟨hHeld, HOz0.out, HOz1.out, BKz1.out, BKz0.out, BKz2.out, BKz3.out, BKz4.out, BKz5.out, GWz0.out, GEz1.out, NBz4.out, NBz8.out, NBz0.out, NBz9.out, NBz5.out, NBz10.out, NBz6.out, NBz11.out, NBz7.out, NBz12.out, (HB.out)⟩)
          rintro gbz0 w105 ⟨hS_, h0_, h1_, h2_, h3_, h4_, h5_, h6_, h7_, h8_, h9_, h10_, h11_, h12_, h13_, h14_, h15_, h16_, h17_, h18_, h19_, h20_⟩
          have n0_ : Aside0 (Kd.R (Kd.int .i64) 3 w105 w.heap.size (fun k_ => some k_ ≠ (aB : Value).ownBlock) aD xz0) := ⟨h0_⟩
          have n1_ : Aside0 (Kd.R (Kd.int .i64) 3 w105 w.heap.size (fun k_ => some k_ ≠ (aD : Value).ownBlock) aB xz1) := ⟨h1_⟩
          have n2_ : Aside0 (w105.heap[gbz3]? = some (.cells #[.int .i64 a0_0, .int .i64 a0_1, .int .i64 a0_2, .slice A0_3 l0_3.length c0_3] 27 (0, 0))) := ⟨h2_⟩
          have n3_ : Aside0 (w105.heap[gbz1]? = some (.cells #[.int .i64 a1_0, .int .i64 a1_1, .int .i64 a1_2, .slice A1_3 l1_3.length c1_3] 27 (0, 0))) := ⟨h3_⟩
          have n4_ : Aside0 (w105.heap[gbz4]? = some (.cells #[.int .i64 xz4, .int .i64 xz3, .int .i64 xz2, .slice none 0 0] 27 (0, 0))) := ⟨h4_⟩
          have n5_ : Aside0 (w105.heap[gbz2]? = some (.cells #[.int .i64 tz0, .int .i64 tz1, .int .i64 tz2, aD] 27 (0, 0))) := ⟨h5_⟩
          have n6_ : Aside0 (w105.heap[gbz5]? = some (.cells #[.int .i64 tz3, .int .i64 tz4, .int .i64 tz6, aB] 27 (0, 0))) := ⟨h6_⟩
          have n7_ : Aside0 (w105.heap[gbz0]? = some (.cells #[.int .i64 0, .int .i64 0, .int .i64 0, .int .i64 0] 47 (0, 0))) := ⟨h7_⟩
          have n8_ : Aside0 (w.heap.size ≤ gbz0) := ⟨h8_⟩
          have n9_ : Aside0 (w.heap.size ≤ gbz0) := ⟨h9_⟩
          have n10_ : Aside0 (gbz3 ≠ gbz0) := ⟨h10_⟩
          have n11_ : Aside0 (gbz0 ≠ gbz3) := ⟨h11_⟩
          have n12_ : Aside0 (gbz1 ≠ gbz0) := ⟨h12_⟩
          have n13_ : Aside0 (gbz0 ≠ gbz1) := ⟨h13_⟩
          have n14_ : Aside0 (gbz4 ≠ gbz0) := ⟨h14_⟩
          have n15_ : Aside0 (gbz0 ≠ gbz4) := ⟨h15_⟩
          have n16_ : Aside0 (gbz2 ≠ gbz0) := ⟨h16_⟩
          have n17_ : Aside0 (gbz0 ≠ gbz2) := ⟨h17_⟩
          have n18_ : Aside0 (gbz5 ≠ gbz0) := ⟨h18_⟩
          have n19_ : Aside0 (gbz0 ≠ gbz5) := ⟨h19_⟩
          have n20_ : Aside0 (Below w.heap.size w w105) := ⟨h20_⟩
          clear HOz0 HOz1 BKz1 BKz0 BKz2 BKz3 BKz4 HB h0_ h1_ h2_ h3_ h4_ h5_ h6_ h7_ h8_ h9_ h10_ h11_ h12_ h13_ h14_ h15_ h16_ h17_ h18_ h19_ h20_
          revert n0_ n1_ n2_ n3_ n4_ n5_ n6_ n7_ n8_ n9_ n10_ n11_ n12_ n13_ n14_ n15_ n16_ n17_ n18_ n19_ n20_; intro HOz0 HOz1 BKz1 BKz0 BKz2 BKz3 BKz4 BKz5 GWz0 GEz1 NBz4 NBz8 NBz0 NBz9 NBz5 NBz10 NBz6 NBz11 NBz7 NBz12 HB
          have hHeld : w105.cell? ⟨gbz1, 0, none⟩ = some (.int .i64 a1_0) ∧ w105.cell? ⟨gbz1, 1, none⟩ = some (.int .i64 a1_1) ∧ w105.cell? ⟨gbz1, 2, none⟩ = some (.int .i64 a1_2) ∧ w105.cell? ⟨gbz1, 3, none⟩ = some (.slice A1_3 l1_3.length c1_3) ∧ w105.cell? (aO.add (x13_2).toNat) = some (.int .i64 (rd l3 x13_2)) := hS_
          refine norm_ (a' := ?_) ?_ ?_
          rotate_left
          ·simp only [putAll, Act.put, List.setIfInBounds_toArray, List.set_cons_zero, List.set_cons_succ]
           rfl
          refine one_ (i := 7) (N := none) #[true, true, true, true, true, true, true, true] rfl rfl (one_of HT_.out (by kernel_rfl)) (by decide) (fun K hK => ?_)
          obtain ⟨hs106, -, -, -, hfs106, -⟩ := c4 BKz5.out
          have hns106_0 := NBz4.out
          have hns106_1 := NBz0.out
          have hns106_2 := NBz5.out
          have hns106_3 := NBz6.out
          have hns106_4 := NBz7.out
          have hms106_0 := NBz8.out
          have hms106_1 := NBz9.out
          have hms106_2 := NBz10.out
          have hms106_3 := NBz11.out
          have hms106_4 := NBz12.out
          obtain ⟨-, hs107, -, -, -, hfs107, -⟩ := c4 BKz5.out
          have hns107_0 := NBz4.out
          have hns107_1 := NBz0.out
          have hns107_2 := NBz5.out
          have hns107_3 := NBz6.out
          have hns107_4 := NBz7.out
          have hms107_0 := NBz8.out
          have hms107_1 := NBz9.out
          have hms107_2 := NBz10.out
          have hms107_3 := NBz11.out
          have hms107_4 := NBz12.out
          obtain ⟨-, -, hs108, -, -, -, hfs108, -⟩ := c4 BKz5.out
          have hns108_0 := NBz4.out
          have hns108_1 := NBz0.out
          have hns108_2 := NBz5.out
          have hns108_3 := NBz6.out
          have hns108_4 := NBz7.out
          have hms108_0 := NBz8.out
          have hms108_1 := NBz9.out
          have hms108_2 := NBz10.out
          have hms108_3 := NBz11.out
          have hms108_4 := NBz12.out
          obtain ⟨-, -, -, hs109, -, -, -, hfs109⟩ := c4 BKz5.out
          have hns109_0 := NBz4.out
          have hns109_1 := NBz0.out
          have hns109_2 := NBz5.out
          have hns109_3 := NBz6.out
          have hns109_4 := NBz7.out
          have hms109_0 := NBz8.out
          have hms109_1 := NBz9.out
          have hms109_2 := NBz10.out
          have hms109_3 := NBz11.out
          have hms109_4 := NBz12.out
          refine skip_ (w1 := ?_) (by rfl) rfl ?_ ?_
          rotate_left
          ·go_simp
           rfl
          refine hK.out _ _ ⟨(e4 NBz0.out hHeld.1), (e4 NBz0.out hHeld.2.1), (e4 NBz0.out hHeld.2.2.1), (e4 NBz0.out hHeld.2.2.2.1), ((cell_far (p := ⟨gbz0, _, none⟩) (by exact Nat.ne_of_lt (Nat.lt_of_lt_of_le (by have := World.block_lt_of_cell? _ _ aE; exact this) GWz0.out)) _).trans (((cell_far (p := ⟨gbz0, _, none⟩) (by exact Nat.ne_of_lt (Nat.lt_of_lt_of_le (by have := World.block_lt_of_cell? _ _ aE; exact this) GWz0.out)) _).trans (((cell_far (p := ⟨gbz0, _, none⟩) (by exact Nat.ne_of_lt (Nat.lt_of_lt_of_le (by have := World.block_lt_of_cell? _ _ aE; exact this) GWz0.out)) _).trans (((cell_far (p := ⟨gbz0, _, none⟩) (by exact Nat.ne_of_lt (Nat.lt_of_lt_of_le (by have := World.block_lt_of_cell? _ _ aE; exact this) GWz0.out)) _).trans hHeld.2.2.2.2)))))))⟩ (fun hHeld => ?_)
          clear hK K
          refine done_ (done_of HT_.out (by kernel_rfl)) ?_
          try go_wp2
          have n0_ : Aside0 (Kd.R (Kd.int .i64) 3 ((((w105.setCell ⟨gbz0, 0, none⟩ (.int .i64 tz7)).setCell ⟨gbz0, 1, none⟩ (.int .i64 tz8)).setCell ⟨gbz0, 2, none⟩ (.int .i64 tz9)).setCell ⟨gbz0, 3, none⟩ (.int .i64 tz10)) w.heap.size (fun k_ => some k_ ≠ (aB : Value).ownBlock) aD xz0) := ⟨by exact Kd.R_mono (R4 (Kd.R_types HOz0.out BKz5.out (by decide)) (.int .i64 tz7) (.int .i64 tz8) (.int .i64 tz9) (.int .i64 tz10)) (fun _ hk => hk.1)⟩
          have n1_ : Aside0 (Kd.R (Kd.int .i64) 3 ((((w105.setCell ⟨gbz0, 0, none⟩ (.int .i64 tz7)).setCell ⟨gbz0, 1, none⟩ (.int .i64 tz8)).setCell ⟨gbz0, 2, none⟩ (.int .i64 tz9)).setCell ⟨gbz0, 3, none⟩ (.int .i64 tz10)) w.heap.size (fun k_ => some k_ ≠ (aD : Value).ownBlock) aB xz1) := ⟨by exact Kd.R_mono (R4 (Kd.R_types HOz1.out BKz5.out (by decide)) (.int .i64 tz7) (.int .i64 tz8) (.int .i64 tz9) (.int .i64 tz10)) (fun _ hk => hk.1)⟩
          have n2_ : Aside0 (((((w105.setCell ⟨gbz0, 0, none⟩ (.int .i64 tz7)).setCell ⟨gbz0, 1, none⟩ (.int .i64 tz8)).setCell ⟨gbz0, 2, none⟩ (.int .i64 tz9)).setCell ⟨gbz0, 3, none⟩ (.int .i64 tz10)).heap[gbz3]? = some (.cells #[.int .i64 a0_0, .int .i64 a0_1, .int .i64 a0_2, .slice A0_3 l0_3.length c0_3] 27 (0, 0))) := ⟨by refine f4 ?_ NBz4.out; exact BKz1.out⟩
          have n3_ : Aside0 (((((w105.setCell ⟨gbz0, 0, none⟩ (.int .i64 tz7)).setCell ⟨gbz0, 1, none⟩ (.int .i64 tz8)).setCell ⟨gbz0, 2, none⟩ (.int .i64 tz9)).setCell ⟨gbz0, 3, none⟩ (.int .i64 tz10)).heap[gbz1]? = some (.cells #[.int .i64 a1_0, .int .i64 a1_1, .int .i64 a1_2, .slice A1_3 l1_3.length c1_3] 27 (0, 0))) := ⟨by refine f4 ?_ NBz0.out; exact BKz0.out⟩
          have n4_ : Aside0 (((((w105.setCell ⟨gbz0, 0, none⟩ (.int .i64 tz7)).setCell ⟨gbz0, 1, none⟩ (.int .i64 tz8)).setCell ⟨gbz0, 2, none⟩ (.int .i64 tz9)).setCell ⟨gbz0, 3, none⟩ (.int .i64 tz10)).heap[gbz4]? = some (.cells #[.int .i64 xz4, .int .i64 xz3, .int .i64 xz2, .slice none 0 0] 27 (0, 0))) := ⟨by refine f4 ?_ NBz5.out; exact BKz2.out⟩
          have n5_ : Aside0 (((((w105.setCell ⟨gbz0, 0, none⟩ (.int .i64 tz7)).setCell ⟨gbz0, 1, none⟩ (.int .i64 tz8)).setCell ⟨gbz0, 2, none⟩ (.int .i64 tz9)).setCell ⟨gbz0, 3, none⟩ (.int .i64 tz10)).heap[gbz2]? = some (.cells #[.int .i64 tz0, .int .i64 tz1, .int .i64 tz2, aD] 27 (0, 0))) := ⟨by refine f4 ?_ NBz6.out; exact BKz3.out⟩
          have n6_ : Aside0 (((((w105.setCell ⟨gbz0, 0, none⟩ (.int .i64 tz7)).setCell ⟨gbz0, 1, none⟩ (.int .i64 tz8)).setCell ⟨gbz0, 2, none⟩ (.int .i64 tz9)).setCell ⟨gbz0, 3, none⟩ (.int .i64 tz10)).heap[gbz5]? = some (.cells #[.int .i64 tz3, .int .i64 tz4, .int .i64 tz6, aB] 27 (0, 0))) := ⟨by refine f4 ?_ NBz7.out; exact BKz4.out⟩
          have n7_ : Aside0 (((((w105.setCell ⟨gbz0, 0, none⟩ (.int .i64 tz7)).setCell ⟨gbz0, 1, none⟩ (.int .i64 tz8)).setCell ⟨gbz0, 2, none⟩ (.int .i64 tz9)).setCell ⟨gbz0, 3, none⟩ (.int .i64 tz10)).heap[gbz0]? = some (.cells #[.int .i64 tz7, .int .i64 tz8, .int .i64 tz9, .int .i64 tz10] 47 (0, 0))) := ⟨by refine p4 (.int .i64 0) (.int .i64 0) (.int .i64 0) (.int .i64 0) ?_; exact BKz5.out⟩
          have n8_ : Aside0 (Below w.heap.size w ((((w105.setCell ⟨gbz0, 0, none⟩ (.int .i64 tz7)).setCell ⟨gbz0, 1, none⟩ (.int .i64 tz8)).setCell ⟨gbz0, 2, none⟩ (.int .i64 tz9)).setCell ⟨gbz0, 3, none⟩ (.int .i64 tz10))) := ⟨by repeat (with_reducible first | exact HB.out | refine below_set ?_ GEz1.out)⟩
          (try clear HOz0)
          (try clear HOz1)
          (try clear BKz1)
          (try clear BKz0)
          (try clear BKz2)
          (try clear BKz3)
          (try clear BKz4)
          (try clear BKz5)
          (try clear HB)
          generalize ((((w105.setCell ⟨gbz0, 0, none⟩ (.int .i64 tz7)).setCell ⟨gbz0, 1, none⟩ (.int .i64 tz8)).setCell ⟨gbz0, 2, none⟩ (.int .i64 tz9)).setCell ⟨gbz0, 3, none⟩ (.int .i64 tz10)) = w110 at n0_ n1_ n2_ n3_ n4_ n5_ n6_ n7_ n8_ ⊢
          revert n0_ n1_ n2_ n3_ n4_ n5_ n6_ n7_ n8_; intro HOz0 HOz1 BKz1 BKz0 BKz2 BKz3 BKz4 BKz5 HB
          replace HOz0 := mk (Kd.R_drew HOz0.out)
          replace HOz1 := mk (Kd.R_drew HOz1.out)
          replace BKz1 := mk (blk_drew BKz1.out)
          replace BKz0 := mk (blk_drew BKz0.out)
          replace BKz2 := mk (blk_drew BKz2.out)
          replace BKz3 := mk (blk_drew BKz3.out)
          replace BKz4 := mk (blk_drew BKz4.out)
          replace BKz5 := mk (blk_drew BKz5.out)
          replace HB := mk (below_drew1 HB.out)
          obtain ⟨Ao112, co112, eo112⟩ := Kd.R_slice HOz0.out
          (subst eo112)
          refine start_ (n := 16) (S := fun w' => w'.cell? ⟨gbz5, 0, none⟩ = some (.int .i64 tz3) ∧ w'.cell? ⟨gbz5, 1, none⟩ = some (.int .i64 tz4) ∧ w'.cell? ⟨gbz5, 2, none⟩ = some (.int .i64 tz6) ∧ w'.cell? ⟨gbz5, 3, none⟩ = some aB ∧ w'.cell? ⟨gbz0, 0, none⟩ = some (.int .i64 tz7) ∧ w'.cell? ⟨gbz0, 1, none⟩ = some (.int .i64 tz8) ∧ w'.cell? ⟨gbz0, 2, none⟩ = some (.int .i64 tz9) ∧ w'.cell? ⟨gbz0, 3, none⟩ = some (.int .i64 tz10) ∧ w'.cell? ⟨gbz2, 0, none⟩ = some (.int .i64 tz0) ∧ w'.cell? ⟨gbz2, 1, none⟩ = some (.int .i64 tz1) ∧ w'.cell? ⟨gbz2, 2, none⟩ = some (.int .i64 tz2) ∧ w'.cell? ⟨gbz2, 3, none⟩ = some (.slice Ao112 xz0.length co112)) (ds := []) #[false, false, false, false, false, false, false, false, false, false, false, false, false, false, false, false] (by kernel_rfl) rfl rfl ⟨blk_cell BKz4.out 0, blk_cell BKz4.out 1, blk_cell BKz4.out 2, blk_cell BKz4.out 3, blk_cell BKz5.out 0, blk_cell BKz5.out 1, blk_cell BKz5.out 2, blk_cell BKz5.out 3, blk_cell BKz3.out 0, blk_cell BKz3.out 1, blk_cell BKz3.out 2, blk_cell BKz3.out 3⟩ (fun hHeld => ?_); refine with_tabW spec_RedrawTiles.tab11 spec_RedrawTiles.bits11 (fun HT_ HW_ => ?_)
          generalize w110.drew = w111 at HOz0 HOz1 BKz1 BKz0 BKz2 BKz3 BKz4 BKz5 HB hHeld ⊢
          refine pu 1 91 ?_ ?_ rfl rfl (any_of HT_.out (by kernel_rfl)) (Or.inl ⟨by rfl, ?_⟩) ?_ ?_
          rotate_left 2
          ·intro w'
           go_simp
           with_reducible rfl
          ·simp only [seval]
           rfl
          refine pu 3 93 ?_ ?_ rfl rfl (any_of HT_.out (by kernel_rfl)) (Or.inl ⟨by rfl, ?_⟩) ?_ ?_
          rotate_left 2
          ·intro w'
           go_simp
           with_reducible rfl
          ·simp only [seval]
           rfl
          refine pu 6 96 ?_ ?_ rfl rfl (any_of HT_.out (by kernel_rfl)) (Or.inl ⟨by rfl, ?_⟩) ?_ ?_
          rotate_left 2
          ·intro w'
           go_simp
           with_reducible rfl
          ·simp only [seval]
           rfl
          refine pu 8 98 ?_ ?_ rfl rfl (any_of HT_.out (by kernel_rfl)) (Or.inl ⟨by rfl, ?_⟩) ?_ ?_
          rotate_left 2
          ·intro w'
           go_simp
           with_reducible rfl
          ·simp only [seval]
           rfl
          refine pu 10 100 ?_ ?_ rfl rfl (any_of HT_.out (by kernel_rfl)) (Or.inl ⟨by rfl, ?_⟩) ?_ ?_
          rotate_left 2
          ·intro w'
           go_simp
           with_reducible rfl
          ·simp only [seval]
           rfl
          refine pu 12 102 ?_ ?_ rfl rfl (any_of HT_.out (by kernel_rfl)) (Or.inl ⟨by rfl, ?_⟩) ?_ ?_
          rotate_left 2
          ·intro w'
           go_simp
           with_reducible rfl
          ·simp only [seval]
           rfl
          refine tk 0 90 ?_ ?_ rfl rfl (take_ofW HT_.out HW_.out (by kernel_rfl)) (Or.inl ⟨by rfl, ?_⟩) hHeld ?_ ?_
          rotate_left 2
          ·rintro w' ⟨s0, s1, s2, s3, s4, s5, s6, s7, s8, s9, s10, s11⟩
           go_simp
           with_reducible rfl
          ·simp only [seval]
           rfl
          refine tk 2 92 ?_ ?_ rfl rfl (take_ofW HT_.out HW_.out (by kernel_rfl)) (Or.inl ⟨by rfl, ?_⟩) hHeld ?_ ?_
          rotate_left 2
          ·rintro w' ⟨s0, s1, s2, s3, s4, s5, s6, s7, s8, s9, s10, s11⟩
           go_simp
           with_reducible rfl
          ·simp only [seval]
           rfl
          refine tk 4 94 ?_ ?_ rfl rfl (take_ofW HT_.out HW_.out (by kernel_rfl)) (Or.inl ⟨by rfl, ?_⟩) hHeld ?_ ?_
          rotate_left 2
          ·rintro w' ⟨s0, s1, s2, s3, s4, s5, s6, s7, s8, s9, s10, s11⟩
           go_simp
           with_reducible rfl
          ·simp only [seval]
           rfl
          refine tk 5 95 ?_ ?_ rfl rfl (take_ofW HT_.out HW_.out (by kernel_rfl)) (Or.inl ⟨by rfl, ?_⟩) hHeld ?_ ?_
          rotate_left 2
          ·rintro w' ⟨s0, s1, s2, s3, s4, s5, s6, s7, s8, s9, s10, s11⟩
           go_simp
           with_reducible rfl
          ·simp only [seval]
           rfl
          refine tk 7 97 ?_ ?_ rfl rfl (take_ofW HT_.out HW_.out (by kernel_rfl)) (Or.inl ⟨by rfl, ?_⟩) hHeld ?_ ?_
          rotate_left 2
          ·rintro w' ⟨s0, s1, s2, s3, s4, s5, s6, s7, s8, s9, s10, s11⟩
           go_simp
           with_reducible rfl
          ·simp only [seval]
           rfl
          refine tk 9 99 ?_ ?_ rfl rfl (take_ofW HT_.out HW_.out (by kernel_rfl)) (Or.inl ⟨by rfl, ?_⟩) hHeld ?_ ?_
          rotate_left 2
          ·rintro w' ⟨s0, s1, s2, s3, s4, s5, s6, s7, s8, s9, s10, s11⟩
           go_simp
           with_reducible rfl
          ·simp only [seval]
           rfl
          refine tk 11 101 ?_ ?_ rfl rfl (take_ofW HT_.out HW_.out (by kernel_rfl)) (Or.inl ⟨by rfl, ?_⟩) hHeld ?_ ?_
          rotate_left 2
          ·rintro w' ⟨s0, s1, s2, s3, s4, s5, s6, s7, s8, s9, s10, s11⟩
           go_simp
           with_reducible rfl
          ·simp only [seval]
           rfl
          refine tk 13 103 ?_ ?_ rfl rfl (take_ofW HT_.out HW_.out (by kernel_rfl)) (Or.inl ⟨by rfl, ?_⟩) hHeld ?_ ?_
          rotate_left 2
          ·rintro w' ⟨s0, s1, s2, s3, s4, s5, s6, s7, s8, s9, s10, s11⟩
           go_simp
           with_reducible rfl
          ·simp only [seval]
           rfl
          refine one_ (i := 14) (N := some 104) #[true, true, true, true, true, true, true, true, true, true, true, true, true, true, true, false] rfl rfl (one_of HT_.out (by kernel_rfl)) (by decide) (fun K hK => ?_)
          refine goes_ Try.func123 (by kernel_rfl) rfl #[.agg #[.int .i64 tz0, .int .i64 tz1, .int .i64 tz2, .slice Ao112 xz0.length co112], .int .i64 tz7, .int .i64 tz8, .int .i64 tz9, .int .i64 tz10] (by rfl) rfl rfl (by (try simp only [bitvec_to_nat]); rfl) ?_
          with_reducible refine (spec_crop.calls kj75 tz0 tz1 tz2 _ _ xz0 tz7 tz8 tz9 tz10 tz17 tz18 tz19 tz16 _ ?side1 ?side2 A100.out).mono ?_
          (case side1 => repeat (exact (Kd.R_reads' HOz0.out).2.2))
          (case side2 => exact (Kd.R_reads' HOz0.out).2.1)
          rintro e w113 ⟨vz2, rfl, ho0, hb⟩
          refine ⟨_, rfl, ?_⟩
          have HOz3 := mk (Kd.R_lower (Kd.R_new' (Kd.R_new' ho0 (Kd.R_lt HOz0.out)) (Kd.R_lt HOz1.out)) (below_size HB.out))
          replace HOz0 := mk (Kd.R_elder' HOz0.out (Kd.R_base ho0) hb)
          replace HOz1 := mk (Kd.R_elder' HOz1.out (Kd.R_base ho0) hb)
          replace BKz1 := mk (blk_below BKz1.out hb)
          replace BKz0 := mk (blk_below BKz0.out hb)
          replace BKz2 := mk (blk_below BKz2.out hb)
          replace BKz3 := mk (blk_below BKz3.out hb)
          replace BKz4 := mk (blk_below BKz4.out hb)
          replace BKz5 := mk (blk_below BKz5.out hb)
          replace HB := mk (below_step HB.out hb)
          (try clear hb)
          (try clear ho0)
          obtain ⟨Ao114, co114, eo114⟩ := Kd.R_slice HOz1.out
          (subst eo114)
          obtain ⟨Ao115, co115, eo115⟩ := Kd.R_slice HOz3.out
          (subst eo115)
          refine hK.out _ _ ⟨blk_cell BKz4.out 0, blk_cell BKz4.out 1, blk_cell BKz4.out 2, blk_cell BKz4.out 3, blk_cell BKz5.out 0, blk_cell BKz5.out 1, blk_cell BKz5.out 2, blk_cell BKz5.out 3, blk_cell BKz3.out 0, blk_cell BKz3.out 1, blk_cell BKz3.out 2, blk_cell BKz3.out 3⟩ (fun hHeld => ?_)
          clear hK K
          refine norm_ (a' := ?_) ?_ ?_
          rotate_left
          ·show Act.put _ (some 104) _ = _
           simp only [seval]
           rfl
          refine one_ (i := 15) (N := some 105) #[true, true, true, true, true, true, true, true, true, true, true, true, true, true, true, true] rfl rfl (one_of HT_.out (by kernel_rfl)) (by decide) (fun K hK => ?_)
          refine goes_ Try.func122 (by kernel_rfl) rfl #[.agg #[.int .i64 tz3, .int .i64 tz4, .int .i64 tz6, .slice Ao114 xz1.length co114], .int .i64 tz7, .int .i64 tz8, .agg #[.int .i64 tz17, .int .i64 tz18, .int .i64 tz19, .slice Ao115 tz16.length co115]] (by rfl) rfl rfl (by (try simp only [bitvec_to_nat]); rfl) ?_
          with_reducible refine (spec_paste.calls kj75 tz3 tz4 tz6 (fun k_ => some k_ = (.slice Ao114 xz1.length co114 : Value).ownBlock) (.slice Ao114 xz1.length co114) xz1 tz7 tz8 tz17 tz18 tz19 _ _ tz16 tz12 w _ ?side1 ?side2 ?side3 ?side4 A101.out).mono ?_
          (case side1 => repeat (with_reducible exact HB.out))
          (case side2 => exact Kd.R_tight rfl HOz1.out)
          (case side3 => exact Kd.C_kept_own HOz3.out (fun k_ hk_ hs_ => hk_.2 hs_))
          (case side4 => exact (Kd.R_reads' HOz3.out).2.1)
          rintro e w116 ⟨rfl, hy0, hb, hkp⟩
          refine ⟨_, rfl, ?_⟩
          replace HOz0 := mk (Kd.R_mono (ok' := fun k_ => some k_ ≠ (.slice Ao114 xz1.length co114 : Value).ownBlock ∧ some k_ ≠ (.slice Ao115 tz16.length co115 : Value).ownBlock) (Kd.R_keptB HOz0.out hkp (fun k_ hk_ hs_ => hk_.1 hs_)) (fun k_ hk_ => ⟨hk_.1.1, hk_.1.2⟩))
          replace BKz1 := mk (blk_kept BKz1.out hkp (fun hs_ => (fun e_ => (Kd.R_ne HOz1.out BKz1.out (by decide)) e_) hs_))
          replace BKz0 := mk (blk_kept BKz0.out hkp (fun hs_ => (fun e_ => (Kd.R_ne HOz1.out BKz0.out (by decide)) e_) hs_))
          replace BKz2 := mk (blk_kept BKz2.out hkp (fun hs_ => (fun e_ => (Kd.R_ne HOz1.out BKz2.out (by decide)) e_) hs_))
          replace BKz3 := mk (blk_kept BKz3.out hkp (fun hs_ => (fun e_ => (Kd.R_ne HOz1.out BKz3.out (by decide)) e_) hs_))
          replace BKz4 := mk (blk_kept BKz4.out hkp (fun hs_ => (fun e_ => (Kd.R_ne HOz1.out BKz4.out (by decide)) e_) hs_))
          replace BKz5 := mk (blk_kept BKz5.out hkp (fun hs_ => (fun e_ => (Kd.R_ne HOz1.out BKz5.out (by decide)) e_) hs_))
          replace HOz1 := mk (Kd.R_reok rfl hy0 (fun k_ e_ => HOz1.out.1 k_ e_))
          replace HOz3 := mk (Kd.R_mono (ok' := fun k_ => some k_ ≠ (.slice Ao112 xz0.length co112 : Value).ownBlock ∧ some k_ ≠ (.slice Ao114 xz1.length co114 : Value).ownBlock) (Kd.R_keptB HOz3.out hkp (fun k_ hk_ hs_ => hk_.2 hs_)) (fun k_ hk_ => ⟨hk_.1.1.2, hk_.1.2⟩))
          replace HB := mk (hb)
          (try clear hb)
          (try clear hkp)
          (try clear hy0)
          refine hK.out _ _ ⟨blk_cell BKz4.out 0, blk_cell BKz4.out 1, blk_cell BKz4.out 2, blk_cell BKz4.out 3, blk_cell BKz5.out 0, blk_cell BKz5.out 1, blk_cell BKz5.out 2, blk_cell BKz5.out 3, blk_cell BKz3.out 0, blk_cell BKz3.out 1, blk_cell BKz3.out 2, blk_cell BKz3.out 3⟩ (fun hHeld => ?_)
          clear hK K
          refine norm_ (a' := ?_) ?_ ?_
          rotate_left
          ·show Act.put _ (some 105) _ = _
           simp only [seval]
           rfl
          refine done_ (done_of HT_.out (by kernel_rfl)) ?_
          try go_wp2
          go_roundg kj75
          case measure => have := HJ5.out; have := HK2.out; have := HJ75.out; omega
          case rel => exact ⟨(wrap64 (x13_2 + 1)), (xz4), (xz3), (xz2), (xz0), (tz12), (.slice Ao112 xz0.length co112), (.slice Ao114 xz1.length co114), (by rfl), H', ⟨by have := HJ5.out; have := HK2.out; have := HJ75.out; omega⟩, ⟨by exact Kd.R_mono HOz0.out (fun _ hk => hk.1)⟩, ⟨by exact Kd.R_mono HOz1.out (fun _ hk => hk.1)⟩, BKz1, BKz0, BKz2, BKz3, BKz4, HB⟩
         rw [if_neg c98] at H
         exact absurd H (by simp)
        rw [if_neg c97] at H
        exact absurd H (by simp)
     rw [if_neg c75] at H
     have c75b0 : decide (x13_2 < (l3.length : Int)) = false := decide_eq_false c75
     clear c75
     simp only [Option.some.injEq, Prod.mk.injEq] at H
     obtain ⟨rfl, rfl, rfl, rfl, rfl⟩ := H
     obtain ⟨hcz121_0, hcz121_1, hcz121_2, -⟩ := c4 BKz4.out
     have hcz121_3 : wr.cell? ⟨gbz5, 3, none⟩ = some aB := (blk_cell BKz4.out 3).trans rfl
     obtain ⟨hcz125_0, hcz125_1, hcz125_2, hcz125_3, hfz125_0, hfz125_1, hfz125_2, hfz125_3⟩ := c4 BKz2.out
     obtain ⟨Ao126, co126, eo126⟩ := Kd.R_slice HOz1.out
     subst eo126
     go_wp2
     refine bodyPost_ret (results_ct rfl _ _ gbz4 27 #[.int .i64 tz3, .int .i64 tz4, .int .i64 tz6, .slice Ao126 xz1.length co126] (0, 0) _ rfl (by refine p4 (.int .i64 xz4) (.int .i64 xz3) (.int .i64 xz2) (.slice none 0 0) ?_; exact BKz2.out) Try.underlying27 rfl (by kernel_rfl)) rfl ?_
     exact ⟨_, by rfl, by exact Kd.R_mono (R4 (Kd.R_types HOz1.out BKz2.out (by decide)) (.int .i64 tz3) (.int .i64 tz4) (.int .i64 tz6) (.slice Ao126 xz1.length co126)) (fun _ hk => trivial), by repeat (with_reducible first | exact HB.out | refine below_set ?_ GEz2.out)⟩


def impl_alikeImages.f (a0_0 : Int) (a0_1 : Int) (a0_2 : Int) (l0_3 : List Int) (a1_0 : Int) (a1_1 : Int) (a1_2 : Int) (l1_3 : List Int) : Option Bool := if a0_0 = a1_0 then (if a0_1 = a1_1 then (some (a0_2 == a1_2)) else (some false)) else (some false)
theorem impl_alikeImages.calls (a0_0 : Int) (a0_1 : Int) (a0_2 : Int) (A0_3 : Option Addr) (c0_3 : Nat) (l0_3 : List Int) (a1_0 : Int) (a1_1 : Int) (a1_2 : Int) (A1_3 : Option Addr) (c1_3 : Nat) (l1_3 : List Int) (r : Bool) (w : World) (hr0_3 : Kd.C (Kd.int .i64) w A0_3 l0_3.length l0_3) (hc0_3 : l0_3.length ≤ c0_3) (hr1_3 : Kd.C (Kd.int .i64) w A1_3 l1_3.length l1_3) (hc1_3 : l1_3.length ≤ c1_3) (h : impl_alikeImages.f a0_0 a0_1 a0_2 l0_3 a1_0 a1_1 a1_2 l1_3 = some r) :
  Calls Try.prog 84 #[.agg #[.int .i64 a0_0, .int .i64 a0_1, .int .i64 a0_2, .slice A0_3 l0_3.length c0_3], .agg #[.int .i64 a1_0, .int .i64 a1_1, .int .i64 a1_2, .slice A1_3 l1_3.length c1_3]] w fun e w' => e = .returned (.bool r) ∧ Below w.heap.size w w' := by
 have hu27 := Try.underlying27
 have HR0_3 := mk hr0_3
 have HC0_3 := mk hc0_3
 clear hr0_3 hc0_3
 have HR1_3 := mk hr1_3
 have HC1_3 := mk hc1_3
 clear hr1_3 hc1_3
 have HB := mk (Below.refl w.heap.size w)
 have H : (if a0_0 = a1_0 then (if a0_1 = a1_1 then (some (a0_2 == a1_2)) else (some false)) else (some false)) = some r := h
 clear h
 by_cases c3 : a0_0 = a1_0
 ·rw [if_pos c3] at H
  have c3b0 : (a0_0 == a1_0) = true := beq_iff_eq.mpr c3
  have c3b1 : (a0_0 != a1_0) = false := bne_eq_false_iff_eq.mpr c3
  clear c3
  by_cases c4 : a0_1 = a1_1
  ·rw [if_pos c4] at H
   have c4b0 : (a0_1 == a1_1) = true := beq_iff_eq.mpr c4
   have c4b1 : (a0_1 != a1_1) = false := bne_eq_false_iff_eq.mpr c4
   clear c4
   obtain rfl := Option.some.inj H
   go_enter Try.func84, Try.ntmps84
   go_wp2_with (first | ((with_reducible refine gate_dst (N := 2) rfl ?_); refine box_event (by rfl) (N := 2) (by rfl) (cs := #[.int .i64 a0_0, .int .i64 a0_1, .int .i64 a0_2, .slice A0_3 l0_3.length c0_3]) (t := 27) (by go_simp; done) ?_; intro gbz0 hg w5 hbox hb; replace HB := mk (below_step HB.out hb); have BKz0 := mk (hbox); clear hb hbox hg) | ((with_reducible refine gate_dst (N := 3) rfl ?_); refine box_event (by rfl) (N := 3) (by rfl) (cs := #[.int .i64 a1_0, .int .i64 a1_1, .int .i64 a1_2, .slice A1_3 l1_3.length c1_3]) (t := 27) (by go_simp; done) ?_; intro gbz1 hg w6 hbox hb; replace BKz0 := mk (blk_below BKz0.out hb); replace HB := mk (below_step HB.out hb); have BKz1 := mk (hbox); clear hb hbox hg; have hcz8_0 : w6.cell? ⟨gbz0, 0, none⟩ = some (.int .i64 a0_0) := (blk_cell BKz0.out 0).trans rfl; have hcz8_1 : w6.cell? ⟨gbz0, 1, none⟩ = some (.int .i64 a0_1) := (blk_cell BKz0.out 1).trans rfl; have hcz8_2 : w6.cell? ⟨gbz0, 2, none⟩ = some (.int .i64 a0_2) := (blk_cell BKz0.out 2).trans rfl; have hcz9_0 : w6.cell? ⟨gbz1, 0, none⟩ = some (.int .i64 a1_0) := (blk_cell BKz1.out 0).trans rfl; have hcz9_1 : w6.cell? ⟨gbz1, 1, none⟩ = some (.int .i64 a1_1) := (blk_cell BKz1.out 1).trans rfl; have hcz9_2 : w6.cell? ⟨gbz1, 2, none⟩ = some (.int .i64 a1_2) := (blk_cell BKz1.out 2).trans rfl))
   go_ret
   exact ⟨by rfl, by exact HB.out⟩
  rw [if_neg c4] at H
  have c4b0 : (a0_1 == a1_1) = false := beq_eq_false_iff_ne.mpr c4
  have c4b1 : (a0_1 != a1_1) = true := bne_iff_ne.mpr c4
  obtain rfl := Option.some.inj H
  go_enter Try.func84, Try.ntmps84
  go_wp2_with (first | ((with_reducible refine gate_dst (N := 2) rfl ?_); refine box_event (by rfl) (N := 2) (by rfl) (cs := #[.int .i64 a0_0, .int .i64 a0_1, .int .i64 a0_2, .slice A0_3 l0_3.length c0_3]) (t := 27) (by go_simp; done) ?_; intro gbz0 hg w10 hbox hb; replace HB := mk (below_step HB.out hb); have BKz0 := mk (hbox); clear hb hbox hg) | ((with_reducible refine gate_dst (N := 3) rfl ?_); refine box_event (by rfl) (N := 3) (by rfl) (cs := #[.int .i64 a1_0, .int .i64 a1_1, .int .i64 a1_2, .slice A1_3 l1_3.length c1_3]) (t := 27) (by go_simp; done) ?_; intro gbz1 hg w11 hbox hb; replace BKz0 := mk (blk_below BKz0.out hb); replace HB := mk (below_step HB.out hb); have BKz1 := mk (hbox); clear hb hbox hg; have hcz13_0 : w11.cell? ⟨gbz0, 0, none⟩ = some (.int .i64 a0_0) := (blk_cell BKz0.out 0).trans rfl; have hcz13_1 : w11.cell? ⟨gbz0, 1, none⟩ = some (.int .i64 a0_1) := (blk_cell BKz0.out 1).trans rfl; have hcz14_0 : w11.cell? ⟨gbz1, 0, none⟩ = some (.int .i64 a1_0) := (blk_cell BKz1.out 0).trans rfl; have hcz14_1 : w11.cell? ⟨gbz1, 1, none⟩ = some (.int .i64 a1_1) := (blk_cell BKz1.out 1).trans rfl))
  go_ret
  exact ⟨by rfl, by exact HB.out⟩
 rw [if_neg c3] at H
 have c3b0 : (a0_0 == a1_0) = false := beq_eq_false_iff_ne.mpr c3
 have c3b1 : (a0_0 != a1_0) = true := bne_iff_ne.mpr c3
 obtain rfl := Option.some.inj H
 go_enter Try.func84, Try.ntmps84
 go_wp2_with (first | ((with_reducible refine gate_dst (N := 2) rfl ?_); refine box_event (by rfl) (N := 2) (by rfl) (cs := #[.int .i64 a0_0, .int .i64 a0_1, .int .i64 a0_2, .slice A0_3 l0_3.length c0_3]) (t := 27) (by go_simp; done) ?_; intro gbz0 hg w15 hbox hb; replace HB := mk (below_step HB.out hb); have BKz0 := mk (hbox); clear hb hbox hg) | ((with_reducible refine gate_dst (N := 3) rfl ?_); refine box_event (by rfl) (N := 3) (by rfl) (cs := #[.int .i64 a1_0, .int .i64 a1_1, .int .i64 a1_2, .slice A1_3 l1_3.length c1_3]) (t := 27) (by go_simp; done) ?_; intro gbz1 hg w16 hbox hb; replace BKz0 := mk (blk_below BKz0.out hb); replace HB := mk (below_step HB.out hb); have BKz1 := mk (hbox); clear hb hbox hg; have hcz18_0 : w16.cell? ⟨gbz0, 0, none⟩ = some (.int .i64 a0_0) := (blk_cell BKz0.out 0).trans rfl; have hcz19_0 : w16.cell? ⟨gbz1, 0, none⟩ = some (.int .i64 a1_0) := (blk_cell BKz1.out 0).trans rfl))
 go_ret
 exact ⟨by rfl, by exact HB.out⟩


def IsS144 (w0 W : World) (g : Nat) (f0 : List Int) (f1 : Int) : Prop := ∃ A0 c0, W.heap[g]? = some (.cells #[.slice A0 f0.length c0, .int .i64 f1] 144 (0, 0)) ∧ w0.heap.size ≤ g ∧ Kd.C (Kd.int .u8) w0 A0 f0.length f0
theorem IsS144.grown {w0 W : World} {g : Nat} {f0 : List Int} {f1 : Int} {W1 : World} {row : Option Nat} (h : IsS144 w0 W g f0 f1) (hw : W.grownBy W1 row) (hne : some g ≠ row) : IsS144 w0 W1 g f0 f1 := by
 obtain ⟨A0, c0, hb, hg, hr0⟩ := h
 exact ⟨A0, c0, blk_grown hb hw hne, hg, hr0⟩
theorem IsS144.own_neN {w0 W : World} {g : Nat} {f0 : List Int} {f1 : Int} {α : Type} {d : Kd α} {e : Nat} {base : Nat} {ok : Nat → Prop} {v : Value} {xs : List α} (h : IsS144 w0 W g f0 f1) (ho : Kd.N d e W base ok v xs) (ht : e ≠ 144) : some g ≠ v.ownBlock := by
 obtain ⟨A0, c0, hb, hg, hr0⟩ := h
 exact Kd.N_ne ho hb ht
theorem IsS144.fresh {w0 W : World} {g : Nat} {f0 : List Int} {f1 : Int} (h : IsS144 w0 W g f0 f1) : ∀ k, W.heap.size ≤ k → k ≠ g := by
 obtain ⟨A0, c0, hb, hg, hr0⟩ := h
 exact Kd.freshB hb
theorem IsS144.kept {w0 W : World} {g : Nat} {f0 : List Int} {f1 : Int} {W1 : World} {S : Nat → Prop} (h : IsS144 w0 W g f0 f1) (hk : Kept W W1 S) (hne : ¬ S g) : IsS144 w0 W1 g f0 f1 := by
 obtain ⟨A0, c0, hb, hg, hr0⟩ := h
 exact ⟨A0, c0, blk_kept hb hk hne, hg, hr0⟩
theorem IsS144.below {w0 W : World} {g : Nat} {f0 : List Int} {f1 : Int} {W1 : World} (h : IsS144 w0 W g f0 f1) (hw : Below W.heap.size W W1) : IsS144 w0 W1 g f0 f1 := h.grown (grown_of_below hw none) (by simp)
theorem IsS144.alloc {w0 W : World} {g : Nat} {f0 : List Int} {f1 : Int} (h : IsS144 w0 W g f0 f1) (o : Obj) : IsS144 w0 (W.alloc o) g f0 f1 := h.below (below_alloc (Below.refl _ _) o)
theorem IsS144.drewN {w0 W : World} {g : Nat} {f0 : List Int} {f1 : Int} (h : IsS144 w0 W g f0 f1) (m : Nat) : IsS144 w0 (W.drewN m) g f0 f1 := h
theorem IsS144.drew {w0 W : World} {g : Nat} {f0 : List Int} {f1 : Int} (h : IsS144 w0 W g f0 f1) : IsS144 w0 W.drew g f0 f1 := h
theorem IsS144.at_ {w0 W : World} {g : Nat} {f0 : List Int} {f1 : Int} {w' : World} {m : Nat} (hq : W.drewN m = w') (h : IsS144 w0 W g f0 f1) : IsS144 w0 w' g f0 f1 := by subst hq; exact IsS144.drewN h m
theorem IsS144.apart {w0 W : World} {g : Nat} {f0 : List Int} {f1 : Int} {α : Type} {d : Kd α} {e : Nat} {base : Nat} {ok : Nat → Prop} {v : Value} {xs : List α} (h : IsS144 w0 W g f0 f1) (ho : d.R e W base ok v xs) (ht : ∀ q, q ∈ e :: d.E → q ≠ 144) : d.R e W base (fun k => ok k ∧ k ≠ g) v xs := by
 obtain ⟨A0, c0, hb, hg, hr0⟩ := h
 exact Kd.R_types ho hb ht
theorem IsS144.own_ne {w0 W : World} {g : Nat} {f0 : List Int} {f1 : Int} {α : Type} {d : Kd α} {e : Nat} {base : Nat} {ok : Nat → Prop} {v : Value} {xs : List α} (h : IsS144 w0 W g f0 f1) (ho : d.R e W base ok v xs) (ht : e ≠ 144) : some g ≠ v.ownBlock := by
 obtain ⟨A0, c0, hb, hg, hr0⟩ := h
 exact Kd.R_ne ho hb ht
theorem IsS144.apartQ {w0 W : World} {g : Nat} {f0 : List Int} {f1 : Int} {α : Type} {d : Kd α} {e : Nat} {base : Nat} {ok : Nat → Prop} {v : Value} {xs : List α} (h : IsS144 w0 W g f0 f1) (ho : d.Q e W base ok v xs) (ht : ∀ q, q ∈ e :: d.E → q ≠ 144) : d.Q e W base (fun k => ok k ∧ k ≠ g) v xs := by
 obtain ⟨A0, c0, hb, hg, hr0⟩ := h
 exact Kd.Q_types ho hb ht
theorem IsS144.own_neQ {w0 W : World} {g : Nat} {f0 : List Int} {f1 : Int} {α : Type} {d : Kd α} {e : Nat} {base : Nat} {ok : Nat → Prop} {v : Value} {xs : List α} (h : IsS144 w0 W g f0 f1) (ho : d.Q e W base ok v xs) (ht : e ≠ 144) : some g ≠ v.ownBlock := by
 obtain ⟨A0, c0, hb, hg, hr0⟩ := h
 exact Kd.Q_ne ho hb ht
theorem IsS144.apartS {w0 W : World} {g : Nat} {f0 : List Int} {f1 : Int} {α : Type} {d : Kd α} {e : Nat} {base : Nat} {ok : Nat → Prop} {v : Value} {xs : List α} (h : IsS144 w0 W g f0 f1) (ho : d.S e W base ok v xs) (ht : ∀ q, q ∈ e :: d.E → q ≠ 144) : d.S e W base (fun k => ok k ∧ k ≠ g) v xs := by
 obtain ⟨A0, c0, hb, hg, hr0⟩ := h
 exact Kd.S_types ho hb ht
theorem IsS144.own_neS {w0 W : World} {g : Nat} {f0 : List Int} {f1 : Int} {α : Type} {d : Kd α} {e : Nat} {base : Nat} {ok : Nat → Prop} {v : Value} {xs : List α} (h : IsS144 w0 W g f0 f1) (ho : d.S e W base ok v xs) (ht : e ≠ 144) : some g ≠ v.ownBlock := by
 obtain ⟨A0, c0, hb, hg, hr0⟩ := h
 exact Kd.S_ne ho hb ht
theorem IsS144.lt {w0 W : World} {g : Nat} {f0 : List Int} {f1 : Int} (h : IsS144 w0 W g f0 f1) : g < W.heap.size := by
 obtain ⟨A0, c0, hb, hg, hr0⟩ := h
 exact blk_lt hb
theorem IsS144.ge {w0 W : World} {g : Nat} {f0 : List Int} {f1 : Int} (h : IsS144 w0 W g f0 f1) : w0.heap.size ≤ g := by
 obtain ⟨A0, c0, hb, hg, hr0⟩ := h
 exact hg
theorem IsS144.ne_blk {w0 W : World} {g : Nat} {f0 : List Int} {f1 : Int} {a : Nat} {cs : Array Value} {t : TypeId} {fr : Nat × Nat} (h : IsS144 w0 W g f0 f1) (hb2 : W.heap[a]? = some (.cells cs t fr)) (ht : t ≠ 144) : g ≠ a := by
 obtain ⟨A0, c0, hb, hg, hr0⟩ := h
 rintro rfl
 rw [hb] at hb2
 injection hb2 with hb2
 injection hb2 with _ ht2
 exact ht ht2.symm
theorem IsS144.far {w0 W : World} {g : Nat} {f0 : List Int} {f1 : Int} {p : Addr} (h : IsS144 w0 W g f0 f1) (hne : g ≠ p.block) (u : Value) : IsS144 w0 (W.setCell p u) g f0 f1 := by
 obtain ⟨A0, c0, hb, hg, hr0⟩ := h
 exact ⟨A0, c0, blk_far hb hne u, hg, hr0⟩
theorem cellS144_0 {W : World} {g : Nat} {A0 : Option Addr} {c0 : Nat} {f0 : List Int} {f1 : Int} (h : W.heap[g]? = some (.cells #[.slice A0 f0.length c0, .int .i64 f1] 144 (0, 0))) : W.cell? ⟨g, 0, none⟩ = some (.slice A0 f0.length c0) := (blk_cell h 0).trans rfl
theorem cellS144_1 {W : World} {g : Nat} {A0 : Option Addr} {c0 : Nat} {f0 : List Int} {f1 : Int} (h : W.heap[g]? = some (.cells #[.slice A0 f0.length c0, .int .i64 f1] 144 (0, 0))) : W.cell? ⟨g, 1, none⟩ = some (.int .i64 f1) := (blk_cell h 1).trans rfl
theorem IsS144.set_1 {w0 W : World} {g : Nat} {f0 : List Int} {f1 : Int} (h : IsS144 w0 W g f0 f1) (x : Int) : IsS144 w0 (W.setCell ⟨g, 1, none⟩ (.int .i64 x)) g f0 x := by
 obtain ⟨A0, c0, hb, hg, hr0⟩ := h
 exact ⟨A0, c0, by simpa using blk_set hb 1 (.int .i64 x), hg, hr0⟩
theorem IsS144.new (w0 W : World) (A0 : Option Addr) (c0 : Nat) (f0 : List Int) (f1 : Int) (hB : Below w0.heap.size w0 W) (hr0 : Kd.C (Kd.int .u8) w0 A0 f0.length f0) : IsS144 w0 (W.alloc (.cells #[.slice A0 f0.length c0, .int .i64 f1] 144)) W.heap.size f0 f1 := ⟨A0, c0, by simpa using heap_alloc_new W _, hB.size, hr0⟩

def spec_reader_pick.j0 : Nat → Int → Bool → List Int → Int → Option (Int × Int)
 | 0, _, _, _, _ => none
 | k + 1, x1, x24, x1000, x1001 => if x24 = true then (some (0, x1001)) else (if (wrap64 (x1001 - 1)) < (x1000.length : Int) then (if 0 ≤ (wrap64 (x1001 - 1)) then (if x1 = 0 then none else (some (Int.tmod (wrap64 (rd x1000 (wrap64 (x1001 - 1)))) x1, x1001))) else none) else (if (x1000.length : Int) = 0 then none else (if 0 ≤ (Int.tmod (wrap64 (x1001 - 1)) (x1000.length : Int)) then (if (Int.tmod (wrap64 (x1001 - 1)) (x1000.length : Int)) < (x1000.length : Int) then (if 0 ≤ (Int.tmod (wrap64 ((wrap64 ((wrap64 (x1001 - 1)) * 7)) + 3)) (x1000.length : Int)) then (if (Int.tmod (wrap64 ((wrap64 ((wrap64 (x1001 - 1)) * 7)) + 3)) (x1000.length : Int)) < (x1000.length : Int) then (if x1 = 0 then none else (some (Int.tmod (Go.bits .xor .i64 (wrap64 ((wrap64 ((wrap64 ((wrap64 ((wrap64 (rd x1000 (Int.tmod (wrap64 (x1001 - 1)) (x1000.length : Int)))) * 131)) + (wrap64 ((wrap64 (rd x1000 (Int.tmod (wrap64 ((wrap64 ((wrap64 (x1001 - 1)) * 7)) + 3)) (x1000.length : Int)))) * 1117)))) + (wrap64 ((wrap64 (x1001 - 1)) * 29)))) + (wrap64 ((wrap64 (Int.tdiv (wrap64 (x1001 - 1)) (x1000.length : Int))) * 53)))) (wrap64 (Int.tdiv (wrap64 ((wrap64 ((wrap64 ((wrap64 ((wrap64 (rd x1000 (Int.tmod (wrap64 (x1001 - 1)) (x1000.length : Int)))) * 131)) + (wrap64 ((wrap64 (rd x1000 (Int.tmod (wrap64 ((wrap64 ((wrap64 (x1001 - 1)) * 7)) + 3)) (x1000.length : Int)))) * 1117)))) + (wrap64 ((wrap64 (x1001 - 1)) * 29)))) + (wrap64 ((wrap64 (Int.tdiv (wrap64 (x1001 - 1)) (x1000.length : Int))) * 53)))) 64))) x1, x1001))) else none) else none) else none) else none)))
def spec_reader_pick.f (k : Nat) (s0_0 : List Int) (s0_1 : Int) (a1 : Int) : Option (Int × Int) := if a1 < 1 then (spec_reader_pick.j0 k a1 true s0_0 (wrap64 (s0_1 + 1))) else (spec_reader_pick.j0 k a1 ((s0_0.length : Int) == 0) s0_0 (wrap64 (s0_1 + 1)))
theorem spec_reader_pick.calls (k : Nat) (g : Nat) (s0_0 : List Int) (s0_1 : Int) (a1 : Int) (r1 : Int) (r2 : Int) (w0 w : World) (hI : IsS144 w0 w g s0_0 s0_1) (hB : Below w0.heap.size w0 w) (h : spec_reader_pick.f k s0_0 s0_1 a1 = some (r1, r2)) :
  Calls Try.prog 127 #[.pointer (some ⟨g, 0, none⟩), .int .i64 a1] w fun e w' => e = .returned (.int .i64 r1) ∧ IsS144 w0 w' g s0_0 r2 ∧ Below w0.heap.size w0 w' ∧ KeepBut w w' g none := by
 have HI0 := Aside0.mk hI
 have HK := Aside0.mk (KeepBut.refl w g none)
 have HL := Aside0.mk hB.size
 clear hI
 have HW0 := Aside0.mk hB.size
 have HB := Aside0.mk hB
 clear hB
 have H : (if a1 < 1 then (spec_reader_pick.j0 k a1 true s0_0 (wrap64 (s0_1 + 1))) else (spec_reader_pick.j0 k a1 ((s0_0.length : Int) == 0) s0_0 (wrap64 (s0_1 + 1)))) = some (r1, r2) := h
 clear h
 have HC3 := Aside0.mk H
 clear H
 obtain ⟨ASz4_0, cSz4_0, HGz4, hgz4, HSz4_0⟩ := HI0.out
 have hcz4_0 := cellS144_0 HGz4
 have hcz4_1 := cellS144_1 HGz4
 have hfz4_1 := blk_frozen HGz4 1
 clear HGz4 hgz4
 go_enter Try.func127, Try.ntmps127
 go_upto_region 2 with (fail)
 repeat (go_quiet (fail); go_upto_region 2 with fail)
 go_cut [24] (fun v24 wc => ∃ (kq : Nat) (x24_2 : Bool), v24 = .bool x24_2 ∧ Aside0 (spec_reader_pick.j0 kq a1 x24_2 s0_0 (wrap64 (s0_1 + 1)) = some (r1, r2)) ∧ Aside0 (kq ≤ k) ∧ Aside0 (IsS144 w0 wc g s0_0 (wrap64 (s0_1 + 1))) ∧ Aside0 (KeepBut w wc g none) ∧ Aside0 (Below w0.heap.size w0 wc))
 case first =>
  have H := HC3.out
  clear HC3
  by_cases c5 : a1 < 1
  ·rw [if_pos c5] at H
   have c5b0 : decide (a1 < 1) = true := decide_eq_true c5
   clear c5
   (skip)
   have H' := Aside0.mk H
   clear H
   go_wp2
   repeat (go_quiet (fail); try go_wp2)
   go_meet
   case rel => exact ⟨_, (true), (by rfl), H', ⟨by omega⟩, ⟨by repeat (with_reducible first | exact HI0.out | apply IsS144.set_1)⟩, ⟨by repeat (with_reducible first | exact HK.out | apply KeepBut.set_)⟩, ⟨by repeat ((with_reducible first | exact HB.out | refine below_set ?_ (IsS144.ge HI0.out)))⟩⟩
  rw [if_neg c5] at H
  have c5b0 : decide (a1 < 1) = false := decide_eq_false c5
  clear c5
  (skip)
  have H' := Aside0.mk H
  clear H
  obtain ⟨ASz6_0, cSz6_0, HGz6, hgz6, HSz6_0⟩ := HI0.out
  clear HGz6 hgz6
  go_wp2
  repeat (go_quiet (fail); try go_wp2)
  go_meet
  case rel => exact ⟨_, (((s0_0.length : Int) == 0)), (by rfl), H', ⟨by omega⟩, ⟨by repeat (with_reducible first | exact HI0.out | apply IsS144.set_1)⟩, ⟨by repeat (with_reducible first | exact HK.out | apply KeepBut.set_)⟩, ⟨by repeat ((with_reducible first | exact HB.out | refine below_set ?_ (IsS144.ge HI0.out)))⟩⟩
 case rest =>
  clear HC3
  obtain ⟨kq, x24_2, rfl, HA, HJ2, HI0, HK, HB⟩ := hcut
  cases kq with
  | zero => exact absurd HA.out (by simp [spec_reader_pick.j0])
  | succ kj2 =>
   have H := HA.out
   clear HA
   simp only [spec_reader_pick.j0] at H
   by_cases c7 : x24_2 = true
   ·subst c7
    have H1 : (some (0, (wrap64 (s0_1 + 1)))) = some (r1, r2) := by rw [if_pos rfl] at H; exact H
    clear H
    have H := H1
    clear H1
    simp only [Option.some.injEq, Prod.mk.injEq] at H
    obtain ⟨rfl, rfl⟩ := H
    go_wp2
    repeat (go_quiet (fail); try go_wp2)
    go_ret
    exact ⟨by rfl, by exact HI0.out, by exact HB.out, by exact HK.out⟩
   replace c7 := Bool.eq_false_iff.mpr c7
   subst c7
   have H1 : (if (wrap64 ((wrap64 (s0_1 + 1)) - 1)) < (s0_0.length : Int) then (if 0 ≤ (wrap64 ((wrap64 (s0_1 + 1)) - 1)) then (if a1 = 0 then none else (some (Int.tmod (wrap64 (rd s0_0 (wrap64 ((wrap64 (s0_1 + 1)) - 1)))) a1, (wrap64 (s0_1 + 1))))) else none) else (if (s0_0.length : Int) = 0 then none else (if 0 ≤ (Int.tmod (wrap64 ((wrap64 (s0_1 + 1)) - 1)) (s0_0.length : Int)) then (if (Int.tmod (wrap64 ((wrap64 (s0_1 + 1)) - 1)) (s0_0.length : Int)) < (s0_0.length : Int) then (if 0 ≤ (Int.tmod (wrap64 ((wrap64 ((wrap64 ((wrap64 (s0_1 + 1)) - 1)) * 7)) + 3)) (s0_0.length : Int)) then (if (Int.tmod (wrap64 ((wrap64 ((wrap64 ((wrap64 (s0_1 + 1)) - 1)) * 7)) + 3)) (s0_0.length : Int)) < (s0_0.length : Int) then (if a1 = 0 then none else (some (Int.tmod (Go.bits .xor .i64 (wrap64 ((wrap64 ((wrap64 ((wrap64 ((wrap64 (rd s0_0 (Int.tmod (wrap64 ((wrap64 (s0_1 + 1)) - 1)) (s0_0.length : Int)))) * 131)) + (wrap64 ((wrap64 (rd s0_0 (Int.tmod (wrap64 ((wrap64 ((wrap64 ((wrap64 (s0_1 + 1)) - 1)) * 7)) + 3)) (s0_0.length : Int)))) * 1117)))) + (wrap64 ((wrap64 ((wrap64 (s0_1 + 1)) - 1)) * 29)))) + (wrap64 ((wrap64 (Int.tdiv (wrap64 ((wrap64 (s0_1 + 1)) - 1)) (s0_0.length : Int))) * 53)))) (wrap64 (Int.tdiv (wrap64 ((wrap64 ((wrap64 ((wrap64 ((wrap64 (rd s0_0 (Int.tmod (wrap64 ((wrap64 (s0_1 + 1)) - 1)) (s0_0.length : Int)))) * 131)) + (wrap64 ((wrap64 (rd s0_0 (Int.tmod (wrap64 ((wrap64 ((wrap64 ((wrap64 (s0_1 + 1)) - 1)) * 7)) + 3)) (s0_0.length : Int)))) * 1117)))) + (wrap64 ((wrap64 ((wrap64 (s0_1 + 1)) - 1)) * 29)))) + (wrap64 ((wrap64 (Int.tdiv (wrap64 ((wrap64 (s0_1 + 1)) - 1)) (s0_0.length : Int))) * 53)))) 64))) a1, (wrap64 (s0_1 + 1))))) else none) else none) else none) else none))) = some (r1, r2) := by rw [if_neg (show ¬ (false = true) by decide)] at H; exact H
   clear H
   have H := H1
   clear H1
   by_cases c8 : (wrap64 ((wrap64 (s0_1 + 1)) - 1)) < (s0_0.length : Int)
   ·rw [if_pos c8] at H
    have c8b0 : decide ((wrap64 ((wrap64 (s0_1 + 1)) - 1)) < (s0_0.length : Int)) = true := decide_eq_true c8
    clear c8
    obtain ⟨ji9, hji9⟩ : ∃ j_ : Int, (wrap64 ((wrap64 (s0_1 + 1)) - 1)) = j_ := ⟨_, rfl⟩
    replace H : (if 0 ≤ ji9 then (if a1 = 0 then none else (some (Int.tmod (wrap64 (rd s0_0 ji9)) a1, (wrap64 (s0_1 + 1))))) else none) = some (r1, r2) := by (rw [hji9] at H; exact H)
    (try rw [hji9] at c8b0)
    have hji9w : (IntKind.i64.wrap ((wrap64 (s0_1 + 1)) - 1)) = ji9 := (i64_w _).trans hji9
    by_cases c10 : 0 ≤ (ji9)
    ·rw [if_pos c10] at H
     have c10b0 : decide (0 ≤ ji9) = true := decide_eq_true c10
     clear c10
     by_cases c11 : a1 = 0
     ·rw [if_pos c11] at H
      exact absurd H (by simp)
     rw [if_neg c11] at H
     have c11b0 : (a1 == 0) = false := beq_eq_false_iff_ne.mpr c11
     have c11b1 : (a1 != 0) = true := bne_iff_ne.mpr c11
     simp only [Option.some.injEq, Prod.mk.injEq] at H
     obtain ⟨rfl, rfl⟩ := H
     obtain ⟨ASz12_0, cSz12_0, HGz12, hgz12, HSz12_0⟩ := HI0.out
     have hcz12_0 := cellS144_0 HGz12
     have hcz12_1 := cellS144_1 HGz12
     clear HGz12 hgz12
     have aD : 0 ≤ (ji9 : Int) := of_decide_eq_true (by (with_reducible assumption))
     have aE : ji9 < (s0_0.length : Int) := of_decide_eq_true (by (with_reducible assumption))
     obtain ⟨aO, aL, aA⟩ := Kd.at_int HSz12_0 ji9 aD aE
     cases aL
     replace aA := pw_cell_below HB.out aA
     replace aD := eq_true aD
     replace aE := eq_true aE
     go_wp2
     repeat (go_quiet (fail); try go_wp2)
     go_ret
     exact ⟨by rfl, by exact HI0.out, by exact HB.out, by exact HK.out⟩
    rw [if_neg c10] at H
    exact absurd H (by simp)
   rw [if_neg c8] at H
   have c8b0 : decide ((wrap64 ((wrap64 (s0_1 + 1)) - 1)) < (s0_0.length : Int)) = false := decide_eq_false c8
   clear c8
   by_cases c13 : (s0_0.length : Int) = 0
   ·rw [if_pos c13] at H
    exact absurd H (by simp)
   rw [if_neg c13] at H
   have c13b0 : ((s0_0.length : Int) == 0) = false := beq_eq_false_iff_ne.mpr c13
   have c13b1 : ((s0_0.length : Int) != 0) = true := bne_iff_ne.mpr c13
   have c13b2 : ¬ (s0_0 = []) := fun h_ => c13 (by rw [h_]; rfl)
   obtain ⟨ji14, hji14⟩ : ∃ j_ : Int, (Int.tmod (wrap64 ((wrap64 (s0_1 + 1)) - 1)) (s0_0.length : Int)) = j_ := ⟨_, rfl⟩
   replace H : (if 0 ≤ ji14 then (if ji14 < (s0_0.length : Int) then (if 0 ≤ (Int.tmod (wrap64 ((wrap64 ((wrap64 ((wrap64 (s0_1 + 1)) - 1)) * 7)) + 3)) (s0_0.length : Int)) then (if (Int.tmod (wrap64 ((wrap64 ((wrap64 ((wrap64 (s0_1 + 1)) - 1)) * 7)) + 3)) (s0_0.length : Int)) < (s0_0.length : Int) then (if a1 = 0 then none else (some (Int.tmod (Go.bits .xor .i64 (wrap64 ((wrap64 ((wrap64 ((wrap64 ((wrap64 (rd s0_0 ji14)) * 131)) + (wrap64 ((wrap64 (rd s0_0 (Int.tmod (wrap64 ((wrap64 ((wrap64 ((wrap64 (s0_1 + 1)) - 1)) * 7)) + 3)) (s0_0.length : Int)))) * 1117)))) + (wrap64 ((wrap64 ((wrap64 (s0_1 + 1)) - 1)) * 29)))) + (wrap64 ((wrap64 (Int.tdiv (wrap64 ((wrap64 (s0_1 + 1)) - 1)) (s0_0.length : Int))) * 53)))) (wrap64 (Int.tdiv (wrap64 ((wrap64 ((wrap64 ((wrap64 ((wrap64 (rd s0_0 ji14)) * 131)) + (wrap64 ((wrap64 (rd s0_0 (Int.tmod (wrap64 ((wrap64 ((wrap64 ((wrap64 (s0_1 + 1)) - 1)) * 7)) + 3)) (s0_0.length : Int)))) * 1117)))) + (wrap64 ((wrap64 ((wrap64 (s0_1 + 1)) - 1)) * 29)))) + (wrap64 ((wrap64 (Int.tdiv (wrap64 ((wrap64 (s0_1 + 1)) - 1)) (s0_0.length : Int))) * 53)))) 64))) a1, (wrap64 (s0_1 + 1))))) else none) else none) else none) else none) = some (r1, r2) := by (rw [hji14] at H; exact H)
   by_cases c15 : 0 ≤ (ji14)
   ·rw [if_pos c15] at H
    have c15b0 : decide (0 ≤ ji14) = true := decide_eq_true c15
    clear c15
    by_cases c16 : ji14 < (s0_0.length : Int)
    ·rw [if_pos c16] at H
     have c16b0 : decide (ji14 < (s0_0.length : Int)) = true := decide_eq_true c16
     clear c16
     obtain ⟨ji17, hji17⟩ : ∃ j_ : Int, (Int.tmod (wrap64 ((wrap64 ((wrap64 ((wrap64 (s0_1 + 1)) - 1)) * 7)) + 3)) (s0_0.length : Int)) = j_ := ⟨_, rfl⟩
     replace H : (if 0 ≤ ji17 then (if ji17 < (s0_0.length : Int) then (if a1 = 0 then none else (some (Int.tmod (Go.bits .xor .i64 (wrap64 ((wrap64 ((wrap64 ((wrap64 ((wrap64 (rd s0_0 ji14)) * 131)) + (wrap64 ((wrap64 (rd s0_0 ji17)) * 1117)))) + (wrap64 ((wrap64 ((wrap64 (s0_1 + 1)) - 1)) * 29)))) + (wrap64 ((wrap64 (Int.tdiv (wrap64 ((wrap64 (s0_1 + 1)) - 1)) (s0_0.length : Int))) * 53)))) (wrap64 (Int.tdiv (wrap64 ((wrap64 ((wrap64 ((wrap64 ((wrap64 (rd s0_0 ji14)) * 131)) + (wrap64 ((wrap64 (rd s0_0 ji17)) * 1117)))) + (wrap64 ((wrap64 ((wrap64 (s0_1 + 1)) - 1)) * 29)))) + (wrap64 ((wrap64 (Int.tdiv (wrap64 ((wrap64 (s0_1 + 1)) - 1)) (s0_0.length : Int))) * 53)))) 64))) a1, (wrap64 (s0_1 + 1))))) else none) else none) = some (r1, r2) := by (rw [hji17] at H; exact H)
     by_cases c18 : 0 ≤ (ji17)
     ·rw [if_pos c18] at H
      have c18b0 : decide (0 ≤ ji17) = true := decide_eq_true c18
      clear c18
      by_cases c19 : ji17 < (s0_0.length : Int)
      ·rw [if_pos c19] at H
       have c19b0 : decide (ji17 < (s0_0.length : Int)) = true := decide_eq_true c19
       clear c19
       by_cases c20 : a1 = 0
       ·rw [if_pos c20] at H
        exact absurd H (by simp)
       rw [if_neg c20] at H
       have c20b0 : (a1 == 0) = false := beq_eq_false_iff_ne.mpr c20
       have c20b1 : (a1 != 0) = true := bne_iff_ne.mpr c20
       simp only [Option.some.injEq, Prod.mk.injEq] at H
       obtain ⟨rfl, rfl⟩ := H
       obtain ⟨ASz21_0, cSz21_0, HGz21, hgz21, HSz21_0⟩ := HI0.out
       have hcz21_0 := cellS144_0 HGz21
       have hcz21_1 := cellS144_1 HGz21
       clear HGz21 hgz21
       have aF : 0 ≤ (ji14 : Int) := of_decide_eq_true (by (with_reducible assumption))
       have aG : ji14 < (s0_0.length : Int) := of_decide_eq_true (by (with_reducible assumption))
       obtain ⟨aJ, aM, aB⟩ := Kd.at_int HSz21_0 ji14 aF aG
       cases aM
       replace aB := pw_cell_below HB.out aB
       replace aF := eq_true aF
       replace aG := eq_true aG
       have aH : 0 ≤ (ji17 : Int) := of_decide_eq_true (by (with_reducible assumption))
       have aI : ji17 < (s0_0.length : Int) := of_decide_eq_true (by (with_reducible assumption))
       obtain ⟨aK, aN, aC⟩ := Kd.at_int HSz21_0 ji17 aH aI
       obtain rfl : aJ = aK := (by injection aN)
       replace aC := pw_cell_below HB.out aC
       replace aH := eq_true aH
       replace aI := eq_true aI
       go_wp2
       repeat (go_quiet (fail); try go_wp2)
       go_ret
       exact ⟨by rfl, by repeat (with_reducible first | exact HI0.out | apply IsS144.drewN), by repeat (with_reducible first | exact HB.out | apply pw_below_drewN), by repeat (with_reducible first | exact HK.out | apply keep_drewN)⟩
      rw [if_neg c19] at H
      exact absurd H (by simp)
     rw [if_neg c18] at H
     exact absurd H (by simp)
    rw [if_neg c16] at H
    exact absurd H (by simp)
   rw [if_neg c15] at H
   exact absurd H (by simp)


def spec_newReader.f (l0 : List Int) : Option (List Int × Int) := if (l0.length : Int) > 2000 then (if 2000 ≤ (l0.length : Int) then (some (l0.take 2000, 0)) else (none)) else (some (l0, 0))
theorem spec_newReader.calls (A0 : Option Addr) (c0 : Nat) (l0 : List Int) (r1 : List Int) (r2 : Int) (w0 w : World) (hB : Below w0.heap.size w0 w) (hr0 : Kd.C (Kd.int .u8) w0 A0 l0.length l0) (hc0 : l0.length ≤ c0) (h : spec_newReader.f l0 = some (r1, r2)) :
  Calls Try.prog 86 #[.slice A0 l0.length c0] w fun e w' => ∃ g_ : Nat, e = .returned (.pointer (some ⟨g_, 0, none⟩)) ∧ IsS144 w0 w' g_ r1 r2 ∧ Below w0.heap.size w0 w' ∧ Below w.heap.size w w' := by
 have hu144 := Try.underlying144
 have HR0 := mk hr0
 have HC0 := mk hc0
 clear hr0 hc0
 have HBW := mk (Below.refl w.heap.size w)
 have HW0 := mk hB.size
 have HB := mk hB
 clear hB
 have H : (if (l0.length : Int) > 2000 then (if 2000 ≤ (l0.length : Int) then (some (l0.take 2000, 0)) else (none)) else (some (l0, 0))) = some (r1, r2) := h
 clear h
 by_cases c2 : (l0.length : Int) > 2000
 ·rw [if_pos c2] at H
  have c2b0 : decide (2000 < (l0.length : Int)) = true := decide_eq_true c2
  have c2b1 : decide (2000 < l0.length) = true := decide_eq_true (by omega)
  clear c2
  by_cases c3 : 2000 ≤ (l0.length : Int)
  ·rw [if_pos c3] at H
   have c3b0 := eq_true c3
   have c3b1 : decide (2000 ≤ (l0.length : Int)) = true := decide_eq_true c3
   clear c3
   simp only [Option.some.injEq, Prod.mk.injEq] at H
   obtain ⟨rfl, rfl⟩ := H
   obtain ⟨i04, hi04, _, hsz4, _⟩ := info_parts info5
   obtain ⟨hcut4, hA4, hC4⟩ := print_take_of (P := Try.prog) (Value.int .u8) 0 31 5 .i64 Try.underlying31 hi04 hsz4 A0 c0 l0 2000 (by omega) (of_decide_eq_true (by first | (with_reducible assumption) | assumption)) HC0.out
   have aE := mk (Kd.C_of_reads (h1 := fun _ => rfl) (hA4 _ (Kd.reads_of_C HR0.out)))
   have aJ := mk hC4
   clear hA4 hC4 hi04 hsz4
   go_enter Try.func86, Try.ntmps86
   go_wp2_with (first | ((with_reducible refine gate_dst (N := 10) rfl ?_); refine box_event ?hg (N := 10) ?hd (cs := #[.slice A0 (l0.take 2000).length c0, .int .i64 0]) (t := 144) ?hr ?_; (case hd => rfl); (case hg => rfl); (case hr => first | (go_simp; done) | (go_simp; rfl)); intro aA hg w5 hbox hb; have n0_ := mk (below_step HBW.out hb); have n1_ := mk (below_step (by repeat (first | (with_reducible first | exact HB.out | apply below_alloc | apply pw_below_drewN | apply below_drew1) | exact HB.out)) hb); have n2_ := mk (hbox); have n3_ := mk ((by rw [hg]; exact (below_size (by repeat (first | (with_reducible first | exact HBW.out | apply below_alloc | apply pw_below_drewN | apply below_drew1) | exact HBW.out))) : w.heap.size ≤ aA)); have n4_ := mk ((Nat.le_trans HW0.out (by rw [hg]; exact (below_size (by repeat (first | (with_reducible first | exact HBW.out | apply below_alloc | apply pw_below_drewN | apply below_drew1) | exact HBW.out))) : w.heap.size ≤ aA) : w0.heap.size ≤ aA)); clear HBW; clear HB; have HBW := n0_; have HB := n1_; have aF := n2_; have aG := n3_; have aC := n4_; clear n0_ n1_ n2_ n3_ n4_; clear hb hbox hg))
   go_ret
   exact ⟨_, rfl, (show IsS144 w0 _ aA (l0.take 2000) 0 from ⟨_, _, by (with_reducible repeat (first | refine blk_drewN ?_ _ | refine blk_drew ?_ | refine blk_alloc ?_ _)); exact aF.out, aC.out, aE.out⟩), by repeat (first | (with_reducible first | exact HB.out | apply below_alloc | apply pw_below_drewN | apply below_drew1 | refine below_set ?_ aC.out) | exact HB.out), by repeat (first | (with_reducible first | exact HBW.out | apply below_alloc | apply pw_below_drewN | apply below_drew1 | refine below_set ?_ aG.out) | exact HBW.out)⟩
  ·rw [if_neg c3] at H
   exact absurd H (by simp)
 ·rw [if_neg c2] at H
  have c2b0 : decide (2000 < (l0.length : Int)) = false := decide_eq_false c2
  have c2b1 : decide (2000 < l0.length) = false := decide_eq_false (by omega)
  clear c2
  simp only [Option.some.injEq, Prod.mk.injEq] at H
  obtain ⟨rfl, rfl⟩ := H
  go_enter Try.func86, Try.ntmps86
  go_wp2_with (first | ((with_reducible refine gate_dst (N := 10) rfl ?_); refine box_event ?hg (N := 10) ?hd (cs := #[.slice A0 l0.length c0, .int .i64 0]) (t := 144) ?hr ?_; (case hd => rfl); (case hg => rfl); (case hr => first | (go_simp; done) | (go_simp; rfl)); intro aB hg w6 hbox hb; have n0_ := mk (below_step HBW.out hb); have n1_ := mk (below_step (by repeat (first | (with_reducible first | exact HB.out | apply below_alloc | apply pw_below_drewN | apply below_drew1) | exact HB.out)) hb); have n2_ := mk (hbox); have n3_ := mk ((by rw [hg]; exact (below_size (by repeat (first | (with_reducible first | exact HBW.out | apply below_alloc | apply pw_below_drewN | apply below_drew1) | exact HBW.out))) : w.heap.size ≤ aB)); have n4_ := mk ((Nat.le_trans HW0.out (by rw [hg]; exact (below_size (by repeat (first | (with_reducible first | exact HBW.out | apply below_alloc | apply pw_below_drewN | apply below_drew1) | exact HBW.out))) : w.heap.size ≤ aB) : w0.heap.size ≤ aB)); clear HBW; clear HB; have HBW := n0_; have HB := n1_; have aH := n2_; have aI := n3_; have aD := n4_; clear n0_ n1_ n2_ n3_ n4_; clear hb hbox hg))
  go_ret
  exact ⟨_, rfl, (show IsS144 w0 _ aB l0 0 from ⟨_, _, by (with_reducible repeat (first | refine blk_drewN ?_ _ | refine blk_drew ?_ | refine blk_alloc ?_ _)); exact aH.out, aD.out, HR0.out⟩), by repeat (first | (with_reducible first | exact HB.out | apply below_alloc | apply pw_below_drewN | apply below_drew1 | refine below_set ?_ aD.out) | exact HB.out), by repeat (first | (with_reducible first | exact HBW.out | apply below_alloc | apply pw_below_drewN | apply below_drew1 | refine below_set ?_ aI.out) | exact HBW.out)⟩


def spec_reader_one.f (k : Nat) (s0_0 : List Int) (s0_1 : Int) (l1 : List Int) : Option (Int × Int) := (spec_reader_pick.f k s0_0 s0_1 (l1.length : Int)).bind fun aB => (if 0 ≤ aB.1 then (if aB.1 < (l1.length : Int) then (some (rd l1 aB.1, aB.2)) else (none)) else (none))
theorem spec_reader_one.calls (k : Nat) (g : Nat) (s0_0 : List Int) (s0_1 : Int) (A1 : Option Addr) (c1 : Nat) (l1 : List Int) (r1 : Int) (r2 : Int) (w0 w : World) (hI : IsS144 w0 w g s0_0 s0_1) (hB : Below w0.heap.size w0 w) (hr1 : Kd.C (Kd.int .i64) w A1 l1.length l1) (hc1 : l1.length ≤ c1) (hf1 : ∀ ad, A1 = some ad → 0 < l1.length → ad.block ≠ g) (h : spec_reader_one.f k s0_0 s0_1 l1 = some (r1, r2)) :
  Calls Try.prog 147 #[.pointer (some ⟨g, 0, none⟩), .slice A1 l1.length c1] w fun e w' => e = .returned (.int .i64 r1) ∧ IsS144 w0 w' g s0_0 r2 ∧ Below w0.heap.size w0 w' ∧ KeepBut w w' g none := by
 have HR1 := Aside0.mk hr1
 have HC1 := Aside0.mk hc1
 clear hr1 hc1
 have HI0 := Aside0.mk hI
 have HK := Aside0.mk (KeepBut.refl w g none)
 have HL := Aside0.mk hB.size
 clear hI
 have HW0 := Aside0.mk hB.size
 have HB := Aside0.mk hB
 clear hB
 have H : ((spec_reader_pick.f k s0_0 s0_1 (l1.length : Int)).bind fun aB => (if 0 ≤ aB.1 then (if aB.1 < (l1.length : Int) then (some (rd l1 aB.1, aB.2)) else (none)) else (none))) = some (r1, r2) := h
 clear h
 replace H := Option.bind_eq_some_iff.mp H
 obtain ⟨⟨aA, aF⟩, A30, H⟩ := H
 replace H : (if 0 ≤ aA then (if aA < (l1.length : Int) then (some (rd l1 aA, aF)) else (none)) else (none)) = some (r1, r2) := H
 have A3 := Aside0.mk A30
 clear A30
 by_cases c4 : 0 ≤ aA
 ·rw [if_pos c4] at H
  have c4b0 : decide (0 ≤ aA) = true := decide_eq_true c4
  clear c4
  by_cases c5 : aA < (l1.length : Int)
  ·rw [if_pos c5] at H
   have c5b0 : decide (aA < (l1.length : Int)) = true := decide_eq_true c5
   clear c5
   simp only [Option.some.injEq, Prod.mk.injEq] at H
   obtain ⟨rfl, rfl⟩ := H
   go_enter Try.func147, Try.ntmps147
   go_wp2_with (first | ((with_reducible refine gate_callee (f := 127) rfl ?_); refine goesL_ (some 9) rfl rfl Try.func127 (by kernel_rfl) rfl #[.pointer (some ⟨g, 0, none⟩), .int .i64 (l1.length : Int)] rfl (by (try simp only [List.map_toArray, List.map_cons, List.map_nil]); first | done | rfl | (simp only [List.length_drop, List.length_take]; rfl)) ?_; (with_reducible refine (spec_reader_pick.calls k g s0_0 s0_1 (l1.length : Int) aA aF w0 _ ?side1 ?side2 A3.out).mono ?_); (case side1 => repeat (first | (with_reducible first | exact HI0.out | apply IsS144.alloc | apply IsS144.drewN | apply IsS144.drew | apply IsS144.set_1) | exact HI0.out)); (case side2 => repeat (first | (with_reducible first | exact HB.out | apply below_alloc | apply pw_below_drewN | apply below_drew1 | refine below_set ?_ (IsS144.ge HI0.out)) | exact HB.out)); rintro e w6 ⟨rfl, hi, hb, hk⟩; refine ⟨_, rfl, ?_⟩; have n0_ := Aside0.mk (KeepBut.trans (by repeat (first | (with_reducible first | exact HK.out | apply KeepBut.set_ | apply keep_drewN | apply keep_drew | apply keep_alloc) | exact HK.out)) hk (.inl rfl)); have n1_ := Aside0.mk (hb); have n2_ := Aside0.mk (hi); clear HK; clear HB; clear HI0; have HK := n0_; have HB := n1_; have HI0 := n2_; clear n0_ n1_ n2_; (try clear hb); (try clear hb2); (try clear hk); (try clear hi); have aD : 0 ≤ (aA : Int) := of_decide_eq_true (by first | (with_reducible assumption) | assumption); have aE : aA < (l1.length : Int) := of_decide_eq_true (by first | (with_reducible assumption) | assumption); obtain ⟨aG, aH, aC⟩ := Kd.at_int HR1.out aA aD aE; cases aH; replace aC := keep_cell HK.out aC (by first | (rw [add_block]; exact hf1 _ rfl (by omega)) | exact hf1 _ rfl (by omega) | exact hf1 aG rfl (by omega)); replace aD := eq_true aD; replace aE := eq_true aE))
   go_ret
   exact ⟨by first | rfl | (simp [errW_none, errW_some] <;> rfl) | (simp [*, errW_none, errW_some] <;> rfl), by repeat (first | (with_reducible first | exact HI0.out | apply IsS144.alloc | apply IsS144.drewN | apply IsS144.drew | apply IsS144.set_1) | exact HI0.out), by repeat (first | (with_reducible first | exact HB.out | apply below_alloc | apply pw_below_drewN | apply below_drew1 | refine below_set ?_ (IsS144.ge HI0.out)) | exact HB.out), by repeat (first | (with_reducible first | exact HK.out | apply KeepBut.set_ | apply keep_drewN | apply keep_drew | apply keep_alloc) | exact HK.out)⟩
  ·rw [if_neg c5] at H
   exact absurd H (by simp)
 ·rw [if_neg c4] at H
  exact absurd H (by simp)

end Go.Proofs.Ytnofkbbcbpjhfaa.Q
