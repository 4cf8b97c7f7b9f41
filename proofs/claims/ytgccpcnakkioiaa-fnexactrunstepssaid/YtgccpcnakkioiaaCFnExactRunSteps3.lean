/- A part of the proof that the statement FnExactRunStepsSaid holds, under no condition of its own: The program's RunSteps and the reference's return the same, and what is returned is held by nobody else: over lists of numbers alone. -/
import Derived.Test.YtgccpcnakkioiaaCFnExactRunSteps1
import Derived.Test.YtgccpcnakkioiaaCFnExactRunSteps2
import Derived.OrdersHeld
import Derived.Deep.RegionHeld
import Derived.RegionTactic
namespace Go.Proofs.Ytgccpcnakkioiaa.Q
open Go.RowKit Go.Proofs.YtgccpcnakkioiaaW.PrintWords Go.Proofs.YtgccpcnakkioiaaW.PrintLast Go.Proofs.YtgccpcnakkioiaaW.PrintMore
open Go.Proofs.YtgccpcnakkioiaaW.PrintWords.Aside0 (mk)
attribute [local go_sem] max2_int min2_int max_two min_two max_three min_three max_four min_four
set_option linter.unusedVariables false
set_option linter.unusedSimpArgs false
def laws_markIntS.l0 : Nat → List Int → Int → Int → Option (Int × List Int)
 | 0, _, _, _ => none
 | k + 1, x0, x1, x5 => if x5 < (x0.length : Int) then (if 0 ≤ x5 then (laws_markIntS.l0 k (x0.set (x5 : Int).toNat x1) (wrap64 (x1 + 1)) (wrap64 (x5 + 1))) else (none)) else (some (x1, x0))
def laws_markIntS.f (k : Nat) (l0 : List Int) (a1 : Int) : Option (Int × List Int) := laws_markIntS.l0 k l0 a1 0
theorem laws_markIntS.mono_l : ∀ k, (∀ y0 y1 y2, LeO (laws_markIntS.l0 k y0 y1 y2) (laws_markIntS.l0 (k + 1) y0 y1 y2))
 | 0 => fun _ _ _ r h => by simp [laws_markIntS.l0] at h
 | k + 1 => by
  have ih0 := laws_markIntS.mono_l k
  ·intro y0 y1 y2
   unfold laws_markIntS.l0
   repeat' first
   | (with_reducible exact ih0 _ _ _)
   | (with_reducible exact LeO.refl _)
   | (with_reducible exact LeO.none _)
   | (with_reducible refine LeO.ite ?_ ?_)
   | (with_reducible refine LeO.bind ?_ (fun _ => ?_))
   | exact ih0 _ _ _
   | exact LeO.none _
   | refine LeO.ite ?_ ?_
   | refine LeO.bind ?_ (fun _ => ?_)
theorem laws_markIntS.mono : ∀ a0 a1 k, LeO (laws_markIntS.f k a0 a1) (laws_markIntS.f (k + 1) a0 a1) := by
 intro a0 a1 k
 have ih0 := laws_markIntS.mono_l k
 unfold laws_markIntS.f
 repeat' first
   | (with_reducible exact ih0 _ _ _)
   | (with_reducible exact LeO.refl _)
   | (with_reducible exact LeO.none _)
   | (with_reducible refine LeO.ite ?_ ?_)
   | (with_reducible refine LeO.bind ?_ (fun _ => ?_))
   | exact ih0 _ _ _
   | exact LeO.none _
   | refine LeO.ite ?_ ?_
   | refine LeO.bind ?_ (fun _ => ?_)
set_option maxHeartbeats 8000000 in
set_option maxRecDepth 100000 in
theorem laws_markIntS.calls (k : Nat) (P0_ : Nat → Prop) (u9000_ : Value) (l0 : List Int) (a1 : Int) (r1 : Int) (r2 : List Int) (w0 w : World) (hB : Below w0.heap.size w0 w) (ho0 : Kd.R (Kd.int .i64) 3 w w0.heap.size P0_ u9000_ l0) (h : laws_markIntS.f k l0 a1 = some (r1, r2)) :
  Calls Try.prog 47 #[u9000_, .int .i64 a1] w fun e w' => e = .returned (.int .i64 r1) ∧ Kd.R (Kd.int .i64) 3 w' w0.heap.size (fun k_ => (P0_ k_ ∨ w.heap.size ≤ k_)) u9000_ r2 ∧ Below w0.heap.size w0 w' ∧ Kept w w' (fun k_ => P0_ k_) := by
 have HO0 := mk (show Kd.R (Kd.int .i64) 3 w w0.heap.size (fun k_ => (P0_ k_ ∨ w.heap.size ≤ k_)) u9000_ l0 from Kd.R_mono ho0 (fun k_ hk => (.inl hk)))
 have HK := mk (Kept.refl w (fun k_ => P0_ k_))
 have HW0 := mk hB.size
 have HB := mk hB
 clear hB
 have H : (laws_markIntS.l0 k l0 a1 0) = some (r1, r2) := h
 clear h
 have H' := mk H
 clear H
 go_enter Try.func47, Try.ntmps47
 go_wp2
 go_loopg [1, 5] k (fun kq v1 v5 w' => ∃ (x0_1 : List Int) (x1_1 : Int) (x5_1 : Int), v1 = .int .i64 x1_1 ∧ v5 = .int .i64 x5_1 ∧ Aside0 (laws_markIntS.l0 kq x0_1 x1_1 x5_1 = some (r1, r2)) ∧ Aside0 (kq ≤ k) ∧ Aside0 (Kd.R (Kd.int .i64) 3 w' w0.heap.size (fun k_ => (P0_ k_ ∨ w.heap.size ≤ k_)) u9000_ x0_1) ∧ Aside0 (Kept w w' (fun k_ => P0_ k_)) ∧ Aside0 (Below w0.heap.size w0 w'))
 case atStart => exact ⟨(l0), (a1), (0), (by first | rfl | (simp; done) | (simp [*]; done)), (by first | rfl | (simp; done) | (simp [*]; done)), H', ⟨Nat.le_refl _⟩, ⟨by (with_reducible repeat (first | apply Kd.R_alloc | apply Kd.R_drewN | apply Kd.R_drew)); exact HO0.out⟩, ⟨by repeat (first | (with_reducible first | exact HK.out | apply Kept.alloc | apply Kept.drewN | apply Kept.drew) | exact HK.out)⟩, ⟨by repeat (first | (with_reducible first | exact HB.out | apply below_alloc | apply pw_below_drewN | apply below_drew1) | exact HB.out)⟩⟩
 case round =>
  clear H'
  try clear p2
  obtain ⟨x0_1, x1_1, x5_1, rfl, rfl, HA, HK1, HO_0, HK, HB⟩ := hrel
  cases gk with
  | zero => exact absurd HA.out (by simp [laws_markIntS.l0])
  | succ k1 =>
   have H := HA.out
   clear HA
   simp only [laws_markIntS.l0] at H
   by_cases c3 : x5_1 < (x0_1.length : Int)
   ·rw [if_pos c3] at H
    have c3b0 : decide (x5_1 < (x0_1.length : Int)) = true := decide_eq_true c3
    clear c3
    by_cases c4 : 0 ≤ x5_1
    ·rw [if_pos c4] at H
     have c4b0 : decide (0 ≤ x5_1) = true := decide_eq_true c4
     clear c4
     obtain ⟨y48001, hy48001⟩ : ∃ y_ : List Int, y_ = (x0_1.set (x5_1 : Int).toNat x1_1) := ⟨_, rfl⟩
     replace H : (laws_markIntS.l0 k1 y48001 (wrap64 (x1_1 + 1)) (wrap64 (x5_1 + 1))) = some (r1, r2) := by first | (rw [hy48001]; with_reducible exact H) | (have H2_ := (Option.bind_some _ _).symm.trans H; rw [hy48001]; with_reducible exact H2_) | (have H2_ := (Option.bind_some _ _).symm.trans H; with_reducible exact H2_) | with_reducible exact H | (rw [hy48001]; exact H) | exact H
     have Ny48001 := mk hy48001
     clear hy48001
     have H' := mk H
     clear H
     obtain ⟨Ao6, co6, eo6⟩ := Kd.R_slice HO_0.out
     subst eo6
     have p5 : 0 ≤ (x5_1 : Int) := of_decide_eq_true (by first | (with_reducible assumption) | assumption)
     have q5 : (x5_1 : Int) < ((x0_1.length : Int) : Int) := of_decide_eq_true (by first | (with_reducible assumption) | assumption)
     obtain ⟨go5, co5, eo5, gb5, gl5, cl5, HG5⟩ := Kd.R_form HO_0.out (by omega)
     (first | cases eo5 | (injection eo5 with ea_ en_ ec_; (first | subst ea_ | (injection ea_ with ea_; subst ea_)); subst ec_; clear en_))
     have GB5 := mk gb5
     have GG5 := mk HG5
     clear gb5 gl5 HG5
     have HMgo5 := mk (show (P0_ go5 ∨ w.heap.size ≤ go5) from (HO_0.out.1 _ rfl))
     obtain ⟨hx5_0, hf5_0⟩ := Kd.R_celln 0 HO_0.out (x5_1 : Int) p5 q5
     replace p5 := eq_true p5
     replace q5 := eq_true q5
     have HP7 := Kd.R_putg HO_0.out (x5_1 : Int) x1_1
     go_wp2_with (first | ((with_reducible refine gate_store (t := 3) (p := 15) rfl ?_); refine store_event (t := 3) (p := 15) (v := ?vo_w8) (w1 := (wr.setCell ⟨go5, (x5_1 : Int).toNat, none⟩ (.int .i64 x1_1))) ?hg ?ho ?hn ?hr ?_; (case ho => rfl); (case hg => rfl); (case hn => rfl); (case hr => first | (go_simp; done) | (go_simp; rfl)); intro w8 hw; have hg : wr.grownBy w8 (some go5) := (by rw [hw]; exact HP7.2); have hp_ : Kd.R (Kd.int .i64) 3 w8 w0.heap.size (fun k_ => (P0_ k_ ∨ w.heap.size ≤ k_)) (.slice (some ⟨go5, 0, none⟩) x0_1.length co6) y48001 := (by rw [hw, Ny48001.out]; exact HP7.1); clear HP7; have n0_ := mk (hp_); have n1_ := mk ((by rw [hw]; exact below_set (HB.out) GB5.out : Below w0.heap.size w0 w8)); have n2_ := mk (Kept.of_grown (S := (fun k_ => P0_ k_)) hg (by repeat (first | (with_reducible first | exact HK.out | apply Kept.alloc | apply Kept.drewN | apply Kept.drew) | exact HK.out)) (fun k_ e_ => (HO_0.out.1 k_ e_))); clear HO_0; clear HB; clear HK; have HO_0 := n0_; have HB := n1_; have HK := n2_; clear n0_ n1_ n2_; clear hg hw hp_))
     go_roundg k1
     case measure => have := HK1.out; omega
     case rel => exact ⟨(y48001), (wrap64 (x1_1 + 1)), (wrap64 (x5_1 + 1)), (by first | rfl | (simp; done) | (simp [*]; done)), (by first | rfl | (simp; done) | (simp [*]; done)), H', ⟨by have := HK1.out; omega⟩, ⟨by (with_reducible repeat (first | apply Kd.R_alloc | apply Kd.R_drewN | apply Kd.R_drew)); exact HO_0.out⟩, ⟨by repeat (first | (with_reducible first | exact HK.out | apply Kept.alloc | apply Kept.drewN | apply Kept.drew) | exact HK.out)⟩, ⟨by repeat (first | (with_reducible first | exact HB.out | apply below_alloc | apply pw_below_drewN | apply below_drew1) | exact HB.out)⟩⟩
    ·rw [if_neg c4] at H
     exact absurd H (by simp)
   ·rw [if_neg c3] at H
    have c3b0 : decide (x5_1 < (x0_1.length : Int)) = false := decide_eq_false c3
    clear c3
    simp only [Option.some.injEq, Prod.mk.injEq] at H
    obtain ⟨rfl, rfl⟩ := H
    obtain ⟨Ao9, co9, eo9⟩ := Kd.R_slice HO_0.out
    subst eo9
    go_wp2
    go_ret
    exact ⟨by first | rfl | (simp [errW_none, errW_some] <;> rfl) | (simp [*, errW_none, errW_some] <;> rfl), by (with_reducible repeat (first | apply Kd.R_alloc | apply Kd.R_drewN | apply Kd.R_drew)); exact HO_0.out, by repeat (first | (with_reducible first | exact HB.out | apply below_alloc | apply pw_below_drewN | apply below_drew1) | exact HB.out), by repeat (first | (with_reducible first | exact HK.out | apply Kept.alloc | apply Kept.drewN | apply Kept.drew) | exact HK.out)⟩


def laws_markImage.f (k : Nat) (a0_0 : Int) (a0_1 : Int) (a0_2 : Int) (l0_3 : List Int) (a1 : Int) : Option (Int × List Int) := (laws_markIntS.f k l0_3 a1).bind fun bt19002 => (some (bt19002.1, bt19002.2))
theorem laws_markImage.mono : ∀ a0 a1 a2 a3 a4 k, LeO (laws_markImage.f k a0 a1 a2 a3 a4) (laws_markImage.f (k + 1) a0 a1 a2 a3 a4) := by
 intro a0 a1 a2 a3 a4 k
 unfold laws_markImage.f
 repeat' first
   | (with_reducible exact laws_markIntS.mono _ _ _)
   | (with_reducible exact LeO.refl _)
   | (with_reducible exact LeO.none _)
   | (with_reducible refine LeO.ite ?_ ?_)
   | (with_reducible refine LeO.bind ?_ (fun _ => ?_))
   | exact laws_markIntS.mono _ _ _
   | exact LeO.none _
   | refine LeO.ite ?_ ?_
   | refine LeO.bind ?_ (fun _ => ?_)
set_option maxHeartbeats 8000000 in
set_option maxRecDepth 100000 in
theorem laws_markImage.calls (k : Nat) (a0_0 : Int) (a0_1 : Int) (a0_2 : Int) (P0_3_ : Nat → Prop) (u9000_ : Value) (l0_3 : List Int) (a1 : Int) (r1 : Int) (r2 : List Int) (w0 w : World) (hB : Below w0.heap.size w0 w) (ho0_3 : Kd.R (Kd.int .i64) 3 w w0.heap.size P0_3_ u9000_ l0_3) (h : laws_markImage.f k a0_0 a0_1 a0_2 l0_3 a1 = some (r1, r2)) :
  Calls Try.prog 18 #[.agg #[.int .i64 a0_0, .int .i64 a0_1, .int .i64 a0_2, u9000_], .int .i64 a1] w fun e w' => e = .returned (.int .i64 r1) ∧ Kd.R (Kd.int .i64) 3 w' w0.heap.size (fun k_ => (P0_3_ k_ ∨ w.heap.size ≤ k_)) u9000_ r2 ∧ Below w0.heap.size w0 w' ∧ Kept w w' (fun k_ => P0_3_ k_) := by
 have hu28 := Try.underlying28
 have HO0_3 := mk (show Kd.R (Kd.int .i64) 3 w w0.heap.size (fun k_ => (P0_3_ k_ ∨ w.heap.size ≤ k_)) u9000_ l0_3 from Kd.R_mono ho0_3 (fun k_ hk => (.inl hk)))
 have HK := mk (Kept.refl w (fun k_ => P0_3_ k_))
 have HW0 := mk hB.size
 have HB := mk hB
 clear hB
 have H : ((laws_markIntS.f k l0_3 a1).bind fun bt19002 => (some (bt19002.1, bt19002.2))) = some (r1, r2) := h
 clear h
 replace H := Option.bind_eq_some_iff.mp H
 obtain ⟨⟨t19002, t19003⟩, A30, H⟩ := H
 replace H : (some (t19002, t19003)) = some (r1, r2) := H
 have A3 := mk A30
 clear A30
 simp only [Option.some.injEq, Prod.mk.injEq] at H
 obtain ⟨rfl, rfl⟩ := H
 obtain ⟨Ao4, co4, eo4⟩ := Kd.R_slice HO0_3.out
 subst eo4
 go_enter Try.func18, Try.ntmps18
 go_wp2_with (first | ((with_reducible refine gate_dst (N := 2) rfl ?_); refine box_event ?hg (N := 2) ?hd (cs := #[.int .i64 a0_0, .int .i64 a0_1, .int .i64 a0_2, .slice Ao4 l0_3.length co4]) (t := 28) ?hr ?_; (case hd => rfl); (case hg => rfl); (case hr => first | (go_simp; done) | (go_simp; rfl)); intro gb19001 hg w5 hbox hb; have n0_ := mk (Kd.R_below (by (with_reducible repeat (first | apply Kd.R_alloc | apply Kd.R_drewN | apply Kd.R_drew)); exact HO0_3.out) hb); have n1_ := mk (Kept.below (S := (fun k_ => P0_3_ k_)) (by repeat (first | (with_reducible first | exact HK.out | apply Kept.alloc | apply Kept.drewN | apply Kept.drew) | exact HK.out)) hb); have n2_ := mk (below_step (by repeat (first | (with_reducible first | exact HB.out | apply below_alloc | apply pw_below_drewN | apply below_drew1) | exact HB.out)) hb); have n3_ := mk (hbox); have n4_ := mk ((by rw [hg]; exact (by first | exact HK.out.1 | exact (show Kept w _ (fun k_ => P0_3_ k_) from by repeat (first | (with_reducible first | exact HK.out | apply Kept.alloc | apply Kept.drewN | apply Kept.drew) | exact HK.out)).1) : w.heap.size ≤ gb19001)); have n5_ := mk ((by rw [hg]; exact (below_size (by repeat (first | (with_reducible first | exact HB.out | apply below_alloc | apply pw_below_drewN | apply below_drew1) | exact HB.out))) : w0.heap.size ≤ gb19001)); clear HO0_3; clear HK; clear HB; have HO0_3 := n0_; have HK := n1_; have HB := n2_; have BK19001 := n3_; have GW19001 := n4_; have GE19001 := n5_; clear n0_ n1_ n2_ n3_ n4_ n5_; clear hb hbox hg; have hcz6_0 : w5.cell? ⟨gb19001, 0, none⟩ = some (.int .i64 a0_0) := (blk_cell BK19001.out 0).trans rfl; have hcz6_1 : w5.cell? ⟨gb19001, 1, none⟩ = some (.int .i64 a0_1) := (blk_cell BK19001.out 1).trans rfl; have hcz6_2 : w5.cell? ⟨gb19001, 2, none⟩ = some (.int .i64 a0_2) := (blk_cell BK19001.out 2).trans rfl; have hcz6_3 : w5.cell? ⟨gb19001, 3, none⟩ = some (.slice Ao4 l0_3.length co4) := (blk_cell BK19001.out 3).trans rfl; have hfz6_0 := blk_frozen BK19001.out 0; have hfz6_1 := blk_frozen BK19001.out 1; have hfz6_2 := blk_frozen BK19001.out 2; have hfz6_3 := blk_frozen BK19001.out 3) | ((with_reducible refine gate_callee (f := 47) rfl ?_); refine goesL_ (some 8) rfl rfl Try.func47 (by kernel_rfl) rfl #[.slice Ao4 l0_3.length co4, .int .i64 a1] rfl (by (try simp only [List.map_toArray, List.map_cons, List.map_nil]); first | done | rfl | (simp only [List.length_drop, List.length_take]; rfl)) ?_; (with_reducible refine (laws_markIntS.calls k (fun k_ => some k_ = (.slice Ao4 l0_3.length co4 : Value).ownBlock) (.slice Ao4 l0_3.length co4) l0_3 a1 t19002 t19003 w0 _ ?side1 ?side2 A3.out).mono ?_); (case side1 => repeat (first | (with_reducible first | exact HB.out | apply below_alloc | apply pw_below_drewN | apply below_drew1 | refine below_set ?_ GE19001.out) | exact HB.out)); (case side2 => exact Kd.R_tight rfl HO0_3.out); rintro e w7 ⟨rfl, hy0, hb, hkp⟩; refine ⟨_, rfl, ?_⟩; have n0_ := mk (Kd.R_reok rfl hy0 (fun k_ e_ => HO0_3.out.1 k_ e_)); have n1_ := mk (blk_kept (by (with_reducible repeat (first | refine blk_drewN ?_ _ | refine blk_drew ?_ | refine blk_alloc ?_ _)); exact BK19001.out) hkp (fun hs_ => (fun e_ => (Kd.R_ne HO0_3.out BK19001.out (by decide)) e_) hs_)); have n2_ := mk (Kept.then_ (S := (fun k_ => P0_3_ k_)) (by repeat (first | (with_reducible first | exact HK.out | apply Kept.alloc | apply Kept.drewN | apply Kept.drew | refine Kept.setCell ?_ (.inr GW19001.out) _) | exact HK.out)) hkp (fun k_ hs_ => (fun e_ => (HO0_3.out.1 k_ e_.symm)) hs_)); have n3_ := mk (hb); clear HO0_3; clear BK19001; clear HK; clear HB; have HO0_3 := n0_; have BK19001 := n1_; have HK := n2_; have HB := n3_; clear n0_ n1_ n2_ n3_; (try clear hb); (try clear hkp); (try clear hy0)))
 go_ret
 exact ⟨by first | rfl | (simp [errW_none, errW_some] <;> rfl) | (simp [*, errW_none, errW_some] <;> rfl), by (with_reducible repeat (first | apply Kd.R_alloc | apply Kd.R_drewN | apply Kd.R_drew)); exact HO0_3.out, by repeat (first | (with_reducible first | exact HB.out | apply below_alloc | apply pw_below_drewN | apply below_drew1 | refine below_set ?_ GE19001.out) | exact HB.out), by repeat (first | (with_reducible first | exact HK.out | apply Kept.alloc | apply Kept.drewN | apply Kept.drew | refine Kept.setCell ?_ (.inr GW19001.out) _) | exact HK.out)⟩

end Go.Proofs.Ytgccpcnakkioiaa.Q

/- Images: valid ones, as the program and the reference have it; copies of lists of numbers. -/
namespace Go.Proofs.Ytgccpcnakkioiaa.Pure
open Go.RowKit Go.Proofs.Ytgccpcnakkioiaa.Q Go.Proofs.YtgccpcnakkioiaaW.PrintWords Go.Proofs.YtgccpcnakkioiaaW.PrintLast Go.Proofs.YtgccpcnakkioiaaW.PrintMore
set_option linter.unusedVariables false
set_option linter.unusedSimpArgs false

def byteI (n : Int) : Bool := decide (0 ≤ n) && decide (n ≤ 255)
theorem byteI_iff (n : Int) : byteI n = true ↔ 0 ≤ n ∧ n ≤ 255 := by simp [byteI]
def shapeI (w h p : Int) : Bool := decide (1 ≤ w ∧ w ≤ 16 ∧ 1 ≤ h ∧ h ≤ 16 ∧ 1 ≤ p ∧ p ≤ 4)
theorem shapeI_iff (w h p : Int) : shapeI w h p = true ↔ 1 ≤ w ∧ w ≤ 16 ∧ 1 ≤ h ∧ h ≤ 16 ∧ 1 ≤ p ∧ p ≤ 4 := by simp [shapeI]
def validI (w h p : Int) (d : List Int) : Bool := shapeI w h p && (decide ((d.length : Int) = w * h * p) && d.all byteI)
theorem validI_iff (w h p : Int) (d : List Int) : validI w h p d = true ↔ (1 ≤ w ∧ w ≤ 16 ∧ 1 ≤ h ∧ h ≤ 16 ∧ 1 ≤ p ∧ p ≤ 4) ∧ (d.length : Int) = w * h * p ∧ ∀ n ∈ d, 0 ≤ n ∧ n ≤ 255 := by
 simp [validI, shapeI_iff, byteI, and_assoc]
theorem shape_prod {w h p : Int} (hs : 1 ≤ w ∧ w ≤ 16 ∧ 1 ≤ h ∧ h ≤ 16 ∧ 1 ≤ p ∧ p ≤ 4) : 0 ≤ w * h ∧ w * h ≤ 256 ∧ 0 ≤ w * h * p ∧ w * h * p ≤ 1024 := by
 have h1 : 0 ≤ w * h := Int.mul_nonneg (by omega) (by omega)
 have h2 : w * h ≤ 16 * 16 := Int.mul_le_mul (by omega) (by omega) (by omega) (by omega)
 have h3 : 0 ≤ w * h * p := Int.mul_nonneg h1 (by omega)
 have h4 : w * h * p ≤ 256 * 4 := Int.mul_le_mul (by omega) (by omega) (by omega) (by omega)
 omega
theorem shape_wrap {w h p : Int} (hs : 1 ≤ w ∧ w ≤ 16 ∧ 1 ≤ h ∧ h ≤ 16 ∧ 1 ≤ p ∧ p ≤ 4) : wrap64 (wrap64 (w * h) * p) = w * h * p := by
 have := shape_prod hs
 rw [w64 (x := w * h) (by omega) (by omega), w64 (by omega) (by omega)]
theorem impl_isSide_eq (a : Int) : impl_isSide.f a = some (decide (1 ≤ a ∧ a ≤ 16)) := by
 unfold impl_isSide.f
 by_cases c : a ≥ 1
 ·rw [if_pos c]; congr 1; rw [decide_eq_decide]; omega
 ·rw [if_neg c, decide_eq_false (by omega)]
theorem impl_isShape_eq (w h p : Int) : impl_isShape.f w h p = some (shapeI w h p) := by
 unfold impl_isShape.f shapeI
 rw [impl_isSide_eq, impl_isSide_eq]
 simp only [Option.bind_some]
 by_cases c1 : 1 ≤ w ∧ w ≤ 16
 ·rw [if_pos (by simpa using c1)]
  by_cases c2 : 1 ≤ h ∧ h ≤ 16
  ·rw [if_pos (by simpa using c2)]
   by_cases c3 : p ≥ 1
   ·rw [if_pos c3]; congr 1; rw [decide_eq_decide]; omega
   ·rw [if_neg c3, decide_eq_false (by omega)]
  ·rw [if_neg (by simpa using c2), decide_eq_false (by omega)]
 ·rw [if_neg (by simpa using c1), decide_eq_false (by omega)]
theorem areBytesI_eq (l : List Int) : impl_areBytes.f l = some (l.all byteI) := by
 unfold impl_areBytes.f
 congr 1
 rw [List.not_any_eq_all_not]
 congr 1
 funext n
 unfold notByte byteI
 rw [Bool.eq_iff_iff]
 simp
theorem impl_isImage_eq (w h p : Int) (d : List Int) : impl_isImage.f w h p d = some (validI w h p d) := by
 unfold impl_isImage.f validI
 rw [impl_isShape_eq, areBytesI_eq]
 simp only [Option.bind_some]
 by_cases c : shapeI w h p = true
 ·rw [if_pos c, shape_wrap ((shapeI_iff w h p).1 c), c]
  by_cases e : (d.length : Int) = w * h * p
  ·rw [if_pos e, decide_eq_true e]; rfl
  ·rw [if_neg e, decide_eq_false e]; rfl
 ·rw [if_neg c, Bool.eq_false_iff.2 c]; rfl
theorem spec_inRangeI_eq (n a b : Int) : spec_inRange.f n a b = some (decide (a ≤ n) && decide (n ≤ b)) := by
 unfold spec_inRange.f
 by_cases c : a ≤ n
 ·rw [if_pos c, decide_eq_true c, Bool.true_and]
 ·rw [if_neg c, decide_eq_false c, Bool.false_and]
theorem spec_validShape_eq (w h p : Int) : spec_validShape.f w h p = some (shapeI w h p) := by
 unfold spec_validShape.f shapeI
 rw [spec_inRangeI_eq, spec_inRangeI_eq, spec_inRangeI_eq]
 simp only [Option.bind_some]
 by_cases c1 : 1 ≤ w ∧ w ≤ 16
 ·rw [if_pos (by simpa using c1)]
  by_cases c2 : 1 ≤ h ∧ h ≤ 16
  ·rw [if_pos (by simpa using c2)]; congr 1; rw [Bool.eq_iff_iff]; simp; omega
  ·rw [if_neg (by simpa using c2), decide_eq_false (by omega)]
 ·rw [if_neg (by simpa using c1), decide_eq_false (by omega)]
theorem spec_allInI_ev (l : List Int) (hl : l.length ≤ 1000000000000) : Ev (fun k => spec_allIn.f k l 0 255) (l.all byteI) := by
 have key := ev_up l.length (fun k i (_ : Unit) => spec_allIn.l0 k l 0 255 (i : Int)) (fun _ _ => True) (fun i _ => (l.drop i).all byteI)
  (by
   intro i s hi _
   have hd : (l.drop i).all byteI = (byteI l[i] && (l.drop (i + 1)).all byteI) := by rw [List.drop_eq_getElem_cons hi, List.all_cons]
   cases hb : byteI l[i] with
   | true =>
    right
    refine ⟨(), fun k => ?_, trivial, by rw [hd, hb, Bool.true_and]⟩
    simp only [spec_allIn.l0]
    rw [if_pos (by omega), if_pos (by omega), rd_nat l i hi, spec_inRangeI_eq]
    simp only [Option.bind_some]
    rw [if_pos (show (decide (0 ≤ l[i]) && decide (l[i] ≤ 255)) = true from hb), w64n i (by omega)]
   | false =>
    left
    rw [hd, hb, Bool.false_and]
    refine Ev.step (f := fun _ => some false) (fun k => ?_) (Ev.now false)
    simp only [spec_allIn.l0]
    rw [if_pos (by omega), if_pos (by omega), rd_nat l i hi, spec_inRangeI_eq]
    simp only [Option.bind_some]
    rw [if_neg (Bool.eq_false_iff.1 (show (decide (0 ≤ l[i]) && decide (l[i] ≤ 255)) = false from hb))])
  (by
   intro s _
   rw [List.drop_length]
   refine Ev.step (f := fun _ => some true) (fun k => ?_) (Ev.now true)
   simp only [spec_allIn.l0]
   rw [if_neg (by omega)])
  l.length 0 () (by omega) trivial
 unfold spec_allIn.f
 simpa using key
theorem spec_validImage_ev (w h p : Int) (d : List Int) (hl : d.length ≤ 1000000000000) : Ev (fun k => spec_validImage.f k w h p d) (validI w h p d) := by
 unfold spec_validImage.f validI
 refine ev_now (spec_validShape_eq w h p) ?_
 by_cases c : shapeI w h p = true
 ·refine ev_pos c ?_
  rw [shape_wrap ((shapeI_iff w h p).1 c), c, Bool.true_and]
  by_cases e : (d.length : Int) = w * h * p
  ·refine ev_pos e ?_
   rw [decide_eq_true e, Bool.true_and]
   exact ev_bind (spec_allInI_ev d hl) (Ev.now _)
  ·refine ev_neg e ?_
   rw [decide_eq_false e]
   exact Ev.now _
 ·refine ev_neg c ?_
  rw [Bool.eq_false_iff.2 c]
  exact Ev.now _

/- A pixel's numbers, and where they lie. -/

def pixJ (a p : Int) (x y : Nat) : Int := wrap64 ((wrap64 ((wrap64 ((y : Int) * a)) + (x : Int))) * p)
theorem pixJ_is {a b p : Int} {d : List Int} (hv : validI a b p d = true) {x y : Nat} (hx : (x : Int) < a) (hy : (y : Int) < b) : 0 ≤ pixJ a p x y ∧ pixJ a p x y ≤ 1024 ∧ pixJ a p x y = ((y : Int) * a + x) * p ∧ pixJ a p x y + p ≤ (d.length : Int) := by
 have h := (validI_iff a b p d).1 hv
 have hp := shape_prod h.1
 have h1 : 0 ≤ (y : Int) * a := Int.mul_nonneg (by omega) (by omega)
 have h2 : (y : Int) * a ≤ (b - 1) * a := Int.mul_le_mul_of_nonneg_right (by omega) (by omega)
 have h3 : (b - 1) * a = a * b - a := by rw [Int.sub_mul, Int.mul_comm b a]; omega
 have h4 : 0 ≤ ((y : Int) * a + x) * p := Int.mul_nonneg (by omega) (by omega)
 have h5 : ((y : Int) * a + x) * p ≤ (a * b - 1) * p := Int.mul_le_mul_of_nonneg_right (by omega) (by omega)
 have h6 : (a * b - 1) * p = a * b * p - p := by rw [Int.sub_mul]; omega
 have e : pixJ a p x y = ((y : Int) * a + x) * p := by
  unfold pixJ
  rw [w64 (x := (y : Int) * a) (by omega) (by omega), w64 (x := (y : Int) * a + (x : Int)) (by omega) (by omega), w64 (by omega) (by omega)]
 omega
end Go.Proofs.Ytgccpcnakkioiaa.Pure

/- A pixel's numbers read out of an image that is valid. -/
namespace Go.Proofs.Ytgccpcnakkioiaa.Q
open Go.RowKit Go.Proofs.YtgccpcnakkioiaaW.PrintWords Go.Proofs.YtgccpcnakkioiaaW.PrintLast Go.Proofs.YtgccpcnakkioiaaW.PrintMore
attribute [local go_sem] max2_int min2_int max_two min_two max_three min_three max_four min_four
set_option linter.unusedVariables false
set_option linter.unusedSimpArgs false
open Go.Proofs.Ytgccpcnakkioiaa.Pure

def pxAt (a p : Int) (d : List Int) (x y : Nat) : List Int := pixT d (pixJ a p x y) p
theorem pxAt_len {a b p : Int} {d : List Int} (hv : validI a b p d = true) {x y : Nat} (hx : (x : Int) < a) (hy : (y : Int) < b) : ((pxAt a p d x y).length : Int) = p := by
  have hb := pixJ_is hv hx hy
  have hs := ((validI_iff a b p d).1 hv).1
  unfold pxAt
  rw [pixT_length _ _ _ (by rw [w64 (by omega) (by omega)]; omega), w64 (by omega) (by omega)]
  omega
theorem pxAt_le {a b p : Int} {d : List Int} (hv : validI a b p d = true) {x y : Nat} (hx : (x : Int) < a) (hy : (y : Int) < b) : (pxAt a p d x y).length ≤ 4 := by
  have h1 := pxAt_len hv hx hy
  have hs := ((validI_iff a b p d).1 hv).1
  omega
theorem at_px {a b p : Int} (A : Option Addr) (c : Nat) {d : List Int} (hv : validI a b p d = true) (hc : d.length ≤ c) {x y : Nat} (hx : (x : Int) < a) (hy : (y : Int) < b) :
    ∃ (A' : Option Addr) (c' : Nat), (pxAt a p d x y).length ≤ c' ∧ ∀ w : World, Kd.C (Kd.int .i64) w A d.length d → (Kd.C (Kd.int .i64) w A' (pxAt a p d x y).length (pxAt a p d x y) ∧
      Calls Try.prog 55 #[.agg #[.int .i64 a, .int .i64 b, .int .i64 p, .slice A d.length c], .int .i64 (x : Int), .int .i64 (y : Int)] w fun e w' => e = .returned (.slice A' (pxAt a p d x y).length c') ∧ Below w.heap.size w w') := by
  have hb := pixJ_is hv hx hy
  have hs := ((validI_iff a b p d).1 hv).1
  have hw : wrap64 (pixJ a p x y + p) = pixJ a p x y + p := w64 (by omega) (by omega)
  exact at_calls a b p A c d (x : Int) (y : Int) (pixJ a p x y) hc rfl (by omega) (by omega) (by omega)

/- impl.MirrorImage's function value: a pixel in the mirror. -/

set_option maxHeartbeats 1600000 in
set_option maxRecDepth 100000 in
theorem mirror1_calls (a b p : Int) (A : Option Addr) (c : Nat) (d : List Int) (hv : validI a b p d = true) (hc : d.length ≤ c) (x y : Nat) (hx : (x : Int) < a) (hy : (y : Int) < b) (B : Nat) (w : World) (h1 : w.heap[B]? = some (.cells #[.int .i64 a, .int .i64 b, .int .i64 p, .slice A d.length c] 28 (0, 0))) (hr : Kd.C (Kd.int .i64) w A d.length d) :
  Calls Try.prog 54 (#[.int .i64 (x : Int), .int .i64 (y : Int)] ++ #[.pointer (some ⟨B, 0, none⟩)]) w fun e w' => ∃ (A' : Option Addr) (c' : Nat), e = .returned (.slice A' (pxAt a p d ((a - 1 - (x : Int)).toNat) y).length c') ∧ Kd.C (Kd.int .i64) w' A' (pxAt a p d ((a - 1 - (x : Int)).toNat) y).length (pxAt a p d ((a - 1 - (x : Int)).toNat) y) ∧ (pxAt a p d ((a - 1 - (x : Int)).toNat) y).length ≤ c' ∧ Below w.heap.size w w' := by
 have hs := ((validI_iff a b p d).1 hv).1
 have k0 := (blk_cell h1 0).trans rfl; have k1 := (blk_cell h1 1).trans rfl; have k2 := (blk_cell h1 2).trans rfl; have k3 := (blk_cell h1 3).trans rfl
 have hX : (((a - 1 - (x : Int)).toNat : Nat) : Int) = a - 1 - (x : Int) := Int.toNat_of_nonneg (by omega)
 obtain ⟨A', c', hc', HA⟩ := at_px (x := (a - 1 - (x : Int)).toNat) (y := y) A c hv hc (by omega) hy
 have HA' := HA w hr
 rw [hX] at HA'
 generalize pxAt a p d ((a - 1 - (x : Int)).toNat) y = px at *
 replace HA' := Aside0.mk HA'
 clear HA hr h1 hv hc
 simp only [List.append_toArray, List.cons_append, List.nil_append]
 go_enter Try.func54, Try.ntmps54
 go_wp2_with (first | (go_at_call 55; (with_reducible refine (HA'.out.2).mono ?_); rintro e w2 ⟨rfl, hb⟩))
 go_ret
 exact ⟨A', c', rfl, Kd.C_below HA'.out.1 hb, hc', hb⟩
end Go.Proofs.Ytgccpcnakkioiaa.Q

/- impl.MirrorImage: the columns in reverse order. -/
namespace Go.Proofs.Ytgccpcnakkioiaa.Q
open Go.RowKit Go.Proofs.YtgccpcnakkioiaaW.PrintWords Go.Proofs.YtgccpcnakkioiaaW.PrintLast Go.Proofs.YtgccpcnakkioiaaW.PrintMore
open Go.Proofs.YtgccpcnakkioiaaW.PrintWords.Aside0 (mk)
attribute [local go_sem] max2_int min2_int max_two min_two max_three min_three max_four min_four
set_option linter.unusedVariables false
set_option linter.unusedSimpArgs false
open Go.Proofs.Ytgccpcnakkioiaa.Pure

def mirPx (a p : Int) (d : List Int) (x y : Nat) : List Int := pxAt a p d (a - 1 - (x : Int)).toNat y
def impl_MirrorImage.f (a b p : Int) (d : List Int) : Option (Int × Int × Int × List Int) := some (if validI a b p d = true then (a, b, p, imgD (mirPx a p d) a.toNat b.toNat) else (0, 0, 0, []))
set_option maxHeartbeats 4000000 in
set_option maxRecDepth 100000 in
theorem mirror_no (a b p : Int) (A : Option Addr) (c : Nat) (d : List Int) (w : World) (hr0_3 : Kd.C (Kd.int .i64) w A d.length d) (hc0_3 : d.length ≤ c) (hv1 : validI a b p d = false) :
  Calls Try.prog 25 #[.agg #[.int .i64 a, .int .i64 b, .int .i64 p, .slice A d.length c]] w fun e w' => ∃ v3_ : Value, e = .returned (.agg #[.int .i64 0, .int .i64 0, .int .i64 0, v3_]) ∧ Kd.R (Kd.int .i64) 3 w' w.heap.size (fun _ => True) v3_ [] ∧ Below w.heap.size w w' := by
 have HC := mk hc0_3
 have HR := mk hr0_3
 have HB0 := mk (Below.refl w.heap.size w)
 have E1 := mk (impl_isImage_eq a b p d)
 have HV := mk hv1
 have hu := Try.underlying28
 clear hr0_3 hc0_3
 rw [hv1] at E1
 go_enter Try.func25, Try.ntmps25
 go_wp2_with (first
  | ((with_reducible refine gate_dst (N := 1) rfl ?_); refine box_event ?hg (N := 1) ?hd (cs := #[.int .i64 a, .int .i64 b, .int .i64 p, .slice A d.length c]) (t := 28) ?hr ?_; (case hd => rfl); (case hg => rfl); (case hr => first | (go_simp; done) | (go_simp; rfl)); intro g1 hg_ w1 hbox hb; have HB1 := mk (below_then HB0.out HB0.out.size hb); have Kg1_1 := mk hbox; clear hbox hb hg_)
  | ((with_reducible refine gate_dst (N := 2) rfl ?_); refine box_event ?hg (N := 2) ?hd (cs := #[.int .i64 0, .int .i64 0, .int .i64 0, .slice none 0 0]) (t := 28) ?hr ?_; (case hd => rfl); (case hg => rfl); (case hr => first | (go_simp; done) | (go_simp; rfl)); intro g2 hg_ w2 hbox hb; have HB2 := mk (below_then HB1.out HB1.out.size hb); have Gg2 := mk (show w.heap.size ≤ g2 from by rw [hg_]; exact HB1.out.size); have Kg1_2 := mk (blk_below Kg1_1.out hb); have Kg2_2 := mk hbox; have fg1_0 : w2.cell? ⟨g1, 0, none⟩ = some (.int .i64 a) := (blk_cell Kg1_2.out 0).trans rfl; have fg1_1 : w2.cell? ⟨g1, 1, none⟩ = some (.int .i64 b) := (blk_cell Kg1_2.out 1).trans rfl; have fg1_2 : w2.cell? ⟨g1, 2, none⟩ = some (.int .i64 p) := (blk_cell Kg1_2.out 2).trans rfl; have fg1_3 : w2.cell? ⟨g1, 3, none⟩ = some (.slice A d.length c) := (blk_cell Kg1_2.out 3).trans rfl; clear hbox hb hg_)
  | (go_at_call 43; (with_reducible refine (impl_isImage.calls a b p A c d _ w2 (Kd.C_below HR.out HB2.out) HC.out E1.out).mono ?_); rintro e w3 ⟨rfl, hb_⟩; have HB3 := mk (below_then HB2.out HB2.out.size hb_); have Kg2_3 := mk (blk_below Kg2_2.out hb_); have eg2_3_0 : w3.cell? ⟨g2, 0, none⟩ = some (.int .i64 0) := (blk_cell Kg2_3.out 0).trans rfl; have eg2_3_1 : w3.cell? ⟨g2, 1, none⟩ = some (.int .i64 0) := (blk_cell Kg2_3.out 1).trans rfl; have eg2_3_2 : w3.cell? ⟨g2, 2, none⟩ = some (.int .i64 0) := (blk_cell Kg2_3.out 2).trans rfl; have eg2_3_3 : w3.cell? ⟨g2, 3, none⟩ = some (.slice none 0 0) := (blk_cell Kg2_3.out 3).trans rfl; have yg2_3_0 := blk_frozen Kg2_3.out 0; have yg2_3_1 := blk_frozen Kg2_3.out 1; have yg2_3_2 := blk_frozen Kg2_3.out 2; have yg2_3_3 := blk_frozen Kg2_3.out 3; clear hb_))
 refine bodyPost_ret (results_cell_row rfl _ _ g2 28 #[.int .i64 0, .int .i64 0, .int .i64 0, .slice none 0 0] (0, 0) _ rfl (by
  refine blk_put (cs := #[.int .i64 0, .int .i64 0, .int .i64 0, .slice none 0 0]) ?_ 3 _ rfl
  refine blk_put (cs := #[.int .i64 0, .int .i64 0, .int .i64 0, .slice none 0 0]) ?_ 2 _ rfl
  refine blk_put (cs := #[.int .i64 0, .int .i64 0, .int .i64 0, .slice none 0 0]) ?_ 1 _ rfl
  refine blk_put (cs := #[.int .i64 0, .int .i64 0, .int .i64 0, .slice none 0 0]) ?_ 0 _ rfl
  exact Kg2_3.out
  ) hu rfl (by kernel_rfl)) rfl ?_
 have G2 := Gg2.out
 exact ⟨_, rfl, Kd.R_nil _ _ _ _ _, below_set (below_set (below_set (below_set HB3.out (by omega)) (by omega)) (by omega)) (by omega)⟩
set_option maxHeartbeats 4000000 in
set_option maxRecDepth 100000 in
theorem mirror_yes (a b : Nat) (p : Int) (A : Option Addr) (c : Nat) (d : List Int) (w : World) (hr0_3 : Kd.C (Kd.int .i64) w A d.length d) (hc0_3 : d.length ≤ c) (hv1 : validI a b p d = true) :
  Calls Try.prog 25 #[.agg #[.int .i64 (a : Int), .int .i64 (b : Int), .int .i64 p, .slice A d.length c]] w fun e w' => ∃ v3_ : Value, e = .returned (.agg #[.int .i64 (a : Int), .int .i64 (b : Int), .int .i64 p, v3_]) ∧ Kd.R (Kd.int .i64) 3 w' w.heap.size (fun _ => True) v3_ (imgD (mirPx a p d) a b) ∧ Below w.heap.size w w' := by
 have HC := mk hc0_3
 have HR := mk hr0_3
 have HB0 := mk (Below.refl w.heap.size w)
 have E1 := mk (impl_isImage_eq a b p d)
 have HV := mk hv1
 have hu := Try.underlying28
 clear hr0_3 hc0_3
 rw [hv1] at E1
 have hs := ((validI_iff a b p d).1 hv1).1
 have HPL := mk (show ∀ x y, x < a → y < b → (mirPx a p d x y).length ≤ 4 from fun x y hx hy => pxAt_le hv1 (by omega) (by omega))
 clear hv1
 go_enter Try.func25, Try.ntmps25
 go_wp2_with (first
  | ((with_reducible refine gate_dst (N := 1) rfl ?_); refine box_event ?hg (N := 1) ?hd (cs := #[.int .i64 (a : Int), .int .i64 (b : Int), .int .i64 p, .slice A d.length c]) (t := 28) ?hr ?_; (case hd => rfl); (case hg => rfl); (case hr => first | (go_simp; done) | (go_simp; rfl)); intro g1 hg_ w1 hbox hb; have HB1 := mk (below_then HB0.out HB0.out.size hb); have Kg1_1 := mk hbox; clear hbox hb hg_)
  | ((with_reducible refine gate_dst (N := 2) rfl ?_); refine box_event ?hg (N := 2) ?hd (cs := #[.int .i64 0, .int .i64 0, .int .i64 0, .slice none 0 0]) (t := 28) ?hr ?_; (case hd => rfl); (case hg => rfl); (case hr => first | (go_simp; done) | (go_simp; rfl)); intro g2 hg_ w2 hbox hb; have HB2 := mk (below_then HB1.out HB1.out.size hb); have Gg2 := mk (show w.heap.size ≤ g2 from by rw [hg_]; exact HB1.out.size); have Kg1_2 := mk (blk_below Kg1_1.out hb); have Kg2_2 := mk hbox; have fg1_0 : w2.cell? ⟨g1, 0, none⟩ = some (.int .i64 (a : Int)) := (blk_cell Kg1_2.out 0).trans rfl; have fg1_1 : w2.cell? ⟨g1, 1, none⟩ = some (.int .i64 (b : Int)) := (blk_cell Kg1_2.out 1).trans rfl; have fg1_2 : w2.cell? ⟨g1, 2, none⟩ = some (.int .i64 p) := (blk_cell Kg1_2.out 2).trans rfl; have fg1_3 : w2.cell? ⟨g1, 3, none⟩ = some (.slice A d.length c) := (blk_cell Kg1_2.out 3).trans rfl; clear hbox hb hg_)
  | (go_at_call 43; (with_reducible refine (impl_isImage.calls a b p A c d _ w2 (Kd.C_below HR.out HB2.out) HC.out E1.out).mono ?_); rintro e w3 ⟨rfl, hb_⟩; have HB3 := mk (below_then HB2.out HB2.out.size hb_); have Kg1_3 := mk (blk_below Kg1_2.out hb_); have eg1_3_0 : w3.cell? ⟨g1, 0, none⟩ = some (.int .i64 (a : Int)) := (blk_cell Kg1_3.out 0).trans rfl; have eg1_3_1 : w3.cell? ⟨g1, 1, none⟩ = some (.int .i64 (b : Int)) := (blk_cell Kg1_3.out 1).trans rfl; have eg1_3_2 : w3.cell? ⟨g1, 2, none⟩ = some (.int .i64 p) := (blk_cell Kg1_3.out 2).trans rfl; have Kg2_3 := mk (blk_below Kg2_2.out hb_); clear hb_)
  | (go_at_call 53; refine (imageBy_calls 54 #[.pointer (some ⟨g1, 0, none⟩)] (mirPx a p d) a b p (by omega) (by omega) w3 (enters_of Try.func54 (by kernel_rfl) rfl) HPL.out (fun W x y hx hy hW => mirror1_calls a b p A c d HV.out HC.out x y (by omega) (by omega) g1 W (blk_below Kg1_3.out hW) (Kd.C_below (Kd.C_below HR.out HB3.out) hW))).mono ?_; rintro e w4 ⟨v4, rfl, hr4, hb_⟩; have HB4 := mk (below_then HB3.out HB3.out.size hb_); have Kg2_4 := mk (blk_below Kg2_3.out hb_); have eg2_4_0 : w4.cell? ⟨g2, 0, none⟩ = some (.int .i64 0) := (blk_cell Kg2_4.out 0).trans rfl; have eg2_4_1 : w4.cell? ⟨g2, 1, none⟩ = some (.int .i64 0) := (blk_cell Kg2_4.out 1).trans rfl; have eg2_4_2 : w4.cell? ⟨g2, 2, none⟩ = some (.int .i64 0) := (blk_cell Kg2_4.out 2).trans rfl; have eg2_4_3 : w4.cell? ⟨g2, 3, none⟩ = some (.slice none 0 0) := (blk_cell Kg2_4.out 3).trans rfl; have yg2_4_0 := blk_frozen Kg2_4.out 0; have yg2_4_1 := blk_frozen Kg2_4.out 1; have yg2_4_2 := blk_frozen Kg2_4.out 2; have yg2_4_3 := blk_frozen Kg2_4.out 3; have HR4 := mk (Kd.R_lower hr4 HB3.out.size); obtain ⟨A4, c4, ev4⟩ := Kd.R_slice HR4.out; subst ev4; clear hr4 hb_))
 have G2 := Gg2.out
 have RR := Kd.R_types HR4.out Kg2_4.out (by decide)
 refine bodyPost_ret (results_cell_row rfl _ _ g2 28 #[.int .i64 (a : Int), .int .i64 (b : Int), .int .i64 p, .slice A4 (imgD (mirPx a p d) a b).length c4] (0, 0) _ rfl (by
  refine blk_put (cs := #[.int .i64 (a : Int), .int .i64 (b : Int), .int .i64 p, .slice none 0 0]) ?_ 3 _ rfl
  refine blk_put (cs := #[.int .i64 (a : Int), .int .i64 (b : Int), .int .i64 0, .slice none 0 0]) ?_ 2 _ rfl
  refine blk_put (cs := #[.int .i64 (a : Int), .int .i64 0, .int .i64 0, .slice none 0 0]) ?_ 1 _ rfl
  refine blk_put (cs := #[.int .i64 0, .int .i64 0, .int .i64 0, .slice none 0 0]) ?_ 0 _ rfl
  exact Kg2_4.out
  ) hu rfl (by kernel_rfl)) rfl ?_
 exact ⟨_, rfl, Kd.R_mono (Kd.R_far (Kd.R_far (Kd.R_far (Kd.R_far RR (fun k hk => hk.2) _) (fun k hk => hk.2) _) (fun k hk => hk.2) _) (fun k hk => hk.2) _) (fun _ _ => trivial), below_set (below_set (below_set (below_set HB4.out (by omega)) (by omega)) (by omega)) (by omega)⟩
theorem impl_MirrorImage.calls (a b p : Int) (A : Option Addr) (c : Nat) (d : List Int) (r1 r2 r3 : Int) (r4 : List Int) (w : World) (hr0_3 : Kd.C (Kd.int .i64) w A d.length d) (hc0_3 : d.length ≤ c) (h : impl_MirrorImage.f a b p d = some (r1, r2, r3, r4)) :
  Calls Try.prog 25 #[.agg #[.int .i64 a, .int .i64 b, .int .i64 p, .slice A d.length c]] w fun e w' => ∃ v3_ : Value, e = .returned (.agg #[.int .i64 r1, .int .i64 r2, .int .i64 r3, v3_]) ∧ Kd.R (Kd.int .i64) 3 w' w.heap.size (fun _ => True) v3_ r4 ∧ Below w.heap.size w w' := by
 have hv := Option.some.inj h
 cases hv1 : validI a b p d with
 | false =>
  rw [hv1, if_neg (by simp)] at hv
  obtain ⟨rfl, rfl, rfl, rfl⟩ : 0 = r1 ∧ 0 = r2 ∧ 0 = r3 ∧ [] = r4 := by simpa using hv
  exact mirror_no a b p A c d w hr0_3 hc0_3 hv1
 | true =>
  have hs := ((validI_iff a b p d).1 hv1).1
  obtain ⟨an, rfl⟩ := Int.eq_ofNat_of_zero_le (show 0 ≤ a by omega)
  obtain ⟨bn, rfl⟩ := Int.eq_ofNat_of_zero_le (show 0 ≤ b by omega)
  rw [hv1, if_pos rfl] at hv
  obtain ⟨rfl, rfl, rfl, rfl⟩ : (an : Int) = r1 ∧ (bn : Int) = r2 ∧ p = r3 ∧ imgD (mirPx an p d) an bn = r4 := by simpa using hv
  exact mirror_yes an bn p A c d w hr0_3 hc0_3 hv1
end Go.Proofs.Ytgccpcnakkioiaa.Q

/- impl.TurnImage's function value: a pixel of the image before a quarter. -/
namespace Go.Proofs.Ytgccpcnakkioiaa.Q
open Go.RowKit Go.Proofs.YtgccpcnakkioiaaW.PrintWords Go.Proofs.YtgccpcnakkioiaaW.PrintLast Go.Proofs.YtgccpcnakkioiaaW.PrintMore
attribute [local go_sem] max2_int min2_int max_two min_two max_three min_three max_four min_four
set_option linter.unusedVariables false
set_option linter.unusedSimpArgs false
open Go.Proofs.Ytgccpcnakkioiaa.Pure

set_option maxHeartbeats 1600000 in
set_option maxRecDepth 100000 in
theorem turn1_calls (a b p : Int) (A : Option Addr) (c : Nat) (d : List Int) (hv : validI a b p d = true) (hc : d.length ≤ c) (x y : Nat) (hx : (x : Int) < b) (hy : (y : Int) < a) (B : Nat) (w : World) (h1 : w.heap[B]? = some (.cells #[.int .i64 a, .int .i64 b, .int .i64 p, .slice A d.length c] 28 (0, 0))) (hr : Kd.C (Kd.int .i64) w A d.length d) :
  Calls Try.prog 56 (#[.int .i64 (x : Int), .int .i64 (y : Int)] ++ #[.pointer (some ⟨B, 0, none⟩)]) w fun e w' => ∃ (A' : Option Addr) (c' : Nat), e = .returned (.slice A' (pxAt a p d y ((b - 1 - (x : Int)).toNat)).length c') ∧ Kd.C (Kd.int .i64) w' A' (pxAt a p d y ((b - 1 - (x : Int)).toNat)).length (pxAt a p d y ((b - 1 - (x : Int)).toNat)) ∧ (pxAt a p d y ((b - 1 - (x : Int)).toNat)).length ≤ c' ∧ Below w.heap.size w w' := by
 have hs := ((validI_iff a b p d).1 hv).1
 have k0 := (blk_cell h1 0).trans rfl; have k1 := (blk_cell h1 1).trans rfl; have k2 := (blk_cell h1 2).trans rfl; have k3 := (blk_cell h1 3).trans rfl
 have hX : (((b - 1 - (x : Int)).toNat : Nat) : Int) = b - 1 - (x : Int) := Int.toNat_of_nonneg (by omega)
 obtain ⟨A', c', hc', HA⟩ := at_px (x := y) (y := (b - 1 - (x : Int)).toNat) A c hv hc hy (by omega)
 have HA' := HA w hr
 rw [hX] at HA'
 generalize pxAt a p d y ((b - 1 - (x : Int)).toNat) = px at *
 replace HA' := Aside0.mk HA'
 clear HA hr h1 hv hc
 simp only [List.append_toArray, List.cons_append, List.nil_append]
 go_enter Try.func56, Try.ntmps56
 go_wp2_with (first | (go_at_call 55; (with_reducible refine (HA'.out.2).mono ?_); rintro e w2 ⟨rfl, hb⟩))
 go_ret
 exact ⟨A', c', rfl, Kd.C_below HA'.out.1 hb, hc', hb⟩
end Go.Proofs.Ytgccpcnakkioiaa.Q

/- impl.TurnImage, of one quarter. -/
namespace Go.Proofs.Ytgccpcnakkioiaa.Q
open Go.RowKit Go.Proofs.YtgccpcnakkioiaaW.PrintWords Go.Proofs.YtgccpcnakkioiaaW.PrintLast Go.Proofs.YtgccpcnakkioiaaW.PrintMore
open Go.Proofs.YtgccpcnakkioiaaW.PrintWords.Aside0 (mk)
attribute [local go_sem] max2_int min2_int max_two min_two max_three min_three max_four min_four
set_option linter.unusedVariables false
set_option linter.unusedSimpArgs false
open Go.Proofs.Ytgccpcnakkioiaa.Pure

def turnPx (a b p : Int) (d : List Int) (x y : Nat) : List Int := pxAt a p d y (b - 1 - (x : Int)).toNat
def impl_TurnImage.f (a b p : Int) (d : List Int) (k : Int) : Option (Int × Int × Int × List Int) := if k = 1 then some (if validI a b p d = true then (b, a, p, imgD (turnPx a b p d) b.toNat a.toNat) else (0, 0, 0, [])) else none
set_option maxHeartbeats 4000000 in
set_option maxRecDepth 100000 in
theorem turn_no (a b p : Int) (A : Option Addr) (c : Nat) (d : List Int) (w : World) (hr0_3 : Kd.C (Kd.int .i64) w A d.length d) (hc0_3 : d.length ≤ c) (hv1 : validI a b p d = false) :
  Calls Try.prog 26 #[.agg #[.int .i64 a, .int .i64 b, .int .i64 p, .slice A d.length c], .int .i64 1] w fun e w' => ∃ v3_ : Value, e = .returned (.agg #[.int .i64 0, .int .i64 0, .int .i64 0, v3_]) ∧ Kd.R (Kd.int .i64) 3 w' w.heap.size (fun _ => True) v3_ [] ∧ Below w.heap.size w w' := by
 have HC := mk hc0_3
 have HR := mk hr0_3
 have HB0 := mk (Below.refl w.heap.size w)
 have E1 := mk (impl_isImage_eq a b p d)
 have HV := mk hv1
 have hu := Try.underlying28
 clear hr0_3 hc0_3
 rw [hv1] at E1
 go_enter Try.func26, Try.ntmps26
 go_wp2_with (first
  | ((with_reducible refine gate_dst (N := 2) rfl ?_); refine box_event ?hg (N := 2) ?hd (cs := #[.int .i64 a, .int .i64 b, .int .i64 p, .slice A d.length c]) (t := 28) ?hr ?_; (case hd => rfl); (case hg => rfl); (case hr => first | (go_simp; done) | (go_simp; rfl)); intro g1 hg_ w1 hbox hb; have HB1 := mk (below_then HB0.out HB0.out.size hb); have Kb0 := mk hbox; have Gg1 := mk (show w.heap.size ≤ g1 from by rw [hg_]; exact HB0.out.size); have Kg1_1 := mk hbox; clear hbox hb hg_)
  | ((with_reducible refine gate_dst (N := 4) rfl ?_); refine box_event ?hg (N := 4) ?hd (cs := #[.int .i64 0, .int .i64 0, .int .i64 0, .slice none 0 0]) (t := 28) ?hr ?_; (case hd => rfl); (case hg => rfl); (case hr => first | (go_simp; done) | (go_simp; rfl)); intro g2 hg_ w2 hbox hb; have HB2 := mk (below_then HB1.out HB1.out.size hb); have Kb1 := mk hbox; have Gg2 := mk (show w.heap.size ≤ g2 from by rw [hg_]; exact HB1.out.size); have Kg1_2 := mk (blk_below Kg1_1.out hb); have Kg2_2 := mk hbox; obtain ⟨fg1_0, fg1_1, fg1_2, fg1_3, -⟩ := c4 Kg1_2.out; obtain ⟨fg2_0, fg2_1, fg2_2, fg2_3, -⟩ := c4 Kg2_2.out; clear hbox hb hg_)
  | (go_at_call 43; (with_reducible refine (impl_isImage.calls a b p A c d _ w2 (Kd.C_below HR.out HB2.out) HC.out E1.out).mono ?_); rintro e w3 ⟨rfl, hb_⟩; have HB3 := mk (below_then HB2.out HB2.out.size hb_); have Kg1_3 := mk (blk_below Kg1_2.out hb_); obtain ⟨eg1_3_0, eg1_3_1, eg1_3_2, eg1_3_3, -⟩ := c4 Kg1_3.out; have Kg2_3 := mk (blk_below Kg2_2.out hb_); obtain ⟨eg2_3_0, eg2_3_1, eg2_3_2, eg2_3_3, yg2_3_0, yg2_3_1, yg2_3_2, yg2_3_3⟩ := c4 Kg2_3.out; clear hb_))
 refine bodyPost_ret (results_cell_row rfl _ _ g2 28 #[.int .i64 0, .int .i64 0, .int .i64 0, .slice none 0 0] (0, 0) _ rfl (by
  refine blk_put (cs := #[.int .i64 0, .int .i64 0, .int .i64 0, .slice none 0 0]) ?_ 3 _ rfl
  refine blk_put (cs := #[.int .i64 0, .int .i64 0, .int .i64 0, .slice none 0 0]) ?_ 2 _ rfl
  refine blk_put (cs := #[.int .i64 0, .int .i64 0, .int .i64 0, .slice none 0 0]) ?_ 1 _ rfl
  refine blk_put (cs := #[.int .i64 0, .int .i64 0, .int .i64 0, .slice none 0 0]) ?_ 0 _ rfl
  exact Kg2_3.out
  ) hu rfl (by kernel_rfl)) rfl ?_
 have G2 := Gg2.out
 exact ⟨_, rfl, Kd.R_nil _ _ _ _ _, below_set (below_set (below_set (below_set HB3.out (by omega)) (by omega)) (by omega)) (by omega)⟩
set_option maxHeartbeats 4000000 in
set_option maxRecDepth 100000 in
theorem turn_yes (a b : Nat) (p : Int) (A : Option Addr) (c : Nat) (d : List Int) (w : World) (hr0_3 : Kd.C (Kd.int .i64) w A d.length d) (hc0_3 : d.length ≤ c) (hv1 : validI a b p d = true) :
  Calls Try.prog 26 #[.agg #[.int .i64 (a : Int), .int .i64 (b : Int), .int .i64 p, .slice A d.length c], .int .i64 1] w fun e w' => ∃ v3_ : Value, e = .returned (.agg #[.int .i64 (b : Int), .int .i64 (a : Int), .int .i64 p, v3_]) ∧ Kd.R (Kd.int .i64) 3 w' w.heap.size (fun _ => True) v3_ (imgD (turnPx a b p d) b a) ∧ Below w.heap.size w w' := by
 have HC := mk hc0_3
 have HR := mk hr0_3
 have HB0 := mk (Below.refl w.heap.size w)
 have E1 := mk (impl_isImage_eq a b p d)
 have HV := mk hv1
 have hu := Try.underlying28
 clear hr0_3 hc0_3
 rw [hv1] at E1
 have hs := ((validI_iff a b p d).1 hv1).1
 have hl := ((validI_iff a b p d).1 hv1).2.1
 have hsp := shape_prod hs
 have hpos : 0 < (a : Int) * b * p := Int.mul_pos (Int.mul_pos (by omega) (by omega)) (by omega)
 have HNE := mk (show 0 < d.length by omega)
 have HCP := mk (show impl_copyImage.f a b p d = some ((a : Int), (b : Int), p, d) from by
  unfold impl_copyImage.f
  simp only [Option.bind_some]
  rw [if_pos (by simp; omega)]
  simp)
 have HPL := mk (show ∀ x y, x < b → y < a → (turnPx a b p d x y).length ≤ 4 from fun x y hx hy => pxAt_le hv1 (by omega) (by omega))
 clear hv1 hl hsp hpos
 go_enter Try.func26, Try.ntmps26
 go_wp2_with (first
  | ((with_reducible refine gate_dst (N := 2) rfl ?_); refine box_event ?hg (N := 2) ?hd (cs := #[.int .i64 (a : Int), .int .i64 (b : Int), .int .i64 p, .slice A d.length c]) (t := 28) ?hr ?_; (case hd => rfl); (case hg => rfl); (case hr => first | (go_simp; done) | (go_simp; rfl)); intro g1 hg_ w1 hbox hb; have HB1 := mk (below_then HB0.out HB0.out.size hb); have Kb0 := mk hbox; have Gg1 := mk (show w.heap.size ≤ g1 from by rw [hg_]; exact HB0.out.size); have Kg1_1 := mk hbox; clear hbox hb hg_)
  | ((with_reducible refine gate_dst (N := 4) rfl ?_); refine box_event ?hg (N := 4) ?hd (cs := #[.int .i64 0, .int .i64 0, .int .i64 0, .slice none 0 0]) (t := 28) ?hr ?_; (case hd => rfl); (case hg => rfl); (case hr => first | (go_simp; done) | (go_simp; rfl)); intro g2 hg_ w2 hbox hb; have HB2 := mk (below_then HB1.out HB1.out.size hb); have Kb1 := mk hbox; have Gg2 := mk (show w.heap.size ≤ g2 from by rw [hg_]; exact HB1.out.size); have Kg1_2 := mk (blk_below Kg1_1.out hb); have Kg2_2 := mk hbox; obtain ⟨fg1_0, fg1_1, fg1_2, fg1_3, -⟩ := c4 Kg1_2.out; obtain ⟨fg2_0, fg2_1, fg2_2, fg2_3, -⟩ := c4 Kg2_2.out; clear hbox hb hg_)
  | (go_at_call 43; (with_reducible refine (impl_isImage.calls a b p A c d _ w2 (Kd.C_below HR.out HB2.out) HC.out E1.out).mono ?_); rintro e w3 ⟨rfl, hb_⟩; have HB3 := mk (below_then HB2.out HB2.out.size hb_); have Kg1_3 := mk (blk_below Kg1_2.out hb_); obtain ⟨eg1_3_0, eg1_3_1, eg1_3_2, eg1_3_3, -⟩ := c4 Kg1_3.out; have Kg2_3 := mk (blk_below Kg2_2.out hb_); obtain ⟨eg2_3_0, eg2_3_1, eg2_3_2, eg2_3_3, yg2_3_0, yg2_3_1, yg2_3_2, yg2_3_3⟩ := c4 Kg2_3.out; clear hb_)
  | (go_at_call 44; (with_reducible refine (impl_copyImage.calls a b p A c d a b p d w3 (Kd.C_below HR.out HB3.out) HC.out HCP.out).mono ?_); rintro e w4 ⟨v4, rfl, hr4, hb4⟩; have HB4 := mk (below_then HB3.out HB3.out.size hb4); have HR4 := mk (Kd.R_lower hr4 HB3.out.size); have Kg1_4 := mk (blk_below Kg1_3.out hb4); have Kg2_4 := mk (blk_below Kg2_3.out hb4); obtain ⟨gr, cr, e4, hgr, hgl, _⟩ := Kd.R_form hr4 HNE.out; subst e4; clear hr4 hb4 hgr hgl))
 have HCR := mk (Kd.R_reads' HR4.out).2.1
 have HGM := blk_new w4 (.cells #[.int .i64 (a : Int), .int .i64 (b : Int), .int .i64 p, .slice (some ⟨gr, 0, none⟩) d.length cr] 28 (0, 0))
 obtain ⟨g5, hg5⟩ : ∃ g5, g5 = w4.heap.size := ⟨_, rfl⟩
 have GE5 : w.heap.size ≤ g5 := by rw [hg5]; exact HB4.out.size
 have G25 : g2 < g5 := by rw [hg5]; exact blk_lt Kg2_4.out
 have G15 : g1 < g5 := by rw [hg5]; exact blk_lt Kg1_4.out
 rw [← hg5] at HGM ⊢
 have G2 := Gg2.out
 go_loopw [22] (fun v22 W => ((v22 = .int .i64 0 ∧ Aside0 (W.heap[g5]? = some (.cells #[.int .i64 (a : Int), .int .i64 (b : Int), .int .i64 p, .slice (some ⟨gr, 0, none⟩) d.length cr] 28 (0, 0))) ∧ Aside0 (Kd.C (Kd.int .i64) W (some ⟨gr, 0, none⟩) d.length d)) ∨ (v22 = .int .i64 1 ∧ ∃ v, Aside0 (W.heap[g5]? = some (.cells #[.int .i64 (b : Int), .int .i64 (a : Int), .int .i64 p, v] 28 (0, 0))) ∧ Aside0 (Kd.R (Kd.int .i64) 3 W w.heap.size (fun _ => True) v (imgD (turnPx a b p d) b a)))) ∧ Aside0 (W.heap[g1]? = some (.cells #[.int .i64 (a : Int), .int .i64 (b : Int), .int .i64 p, .slice A d.length c] 28 (0, 0))) ∧ Aside0 (W.heap[g2]? = some (.cells #[.int .i64 0, .int .i64 0, .int .i64 0, .slice none 0 0] 28 (0, 0))) ∧ Aside0 (Below w.heap.size w W)) (fun v22 _ => 1 - (intOf v22).toNat)
 case atStart => exact ⟨.inl ⟨rfl, ⟨HGM⟩, ⟨Kd.C_alloc (Kd.R_reads' HR4.out).2.2 _⟩⟩, ⟨blk_alloc Kg1_4.out _⟩, ⟨blk_alloc Kg2_4.out _⟩, ⟨below_alloc HB4.out _⟩⟩
 case round =>
  clear HGM hg5
  obtain ⟨hh, h1, h2, hb⟩ := hrel
  rcases hh with ⟨rfl, h5, HCO⟩ | ⟨rfl, v, h5, hr⟩
  ·have m0 := blk_cell h5.out 0; have m1 := blk_cell h5.out 1; have m2 := blk_cell h5.out 2; have m3 := blk_cell h5.out 3
   have n2 : ∀ o, (wr.alloc o).cell? ⟨g1, 2, none⟩ = some (.int .i64 p) := fun o => (blk_cell (blk_alloc h1.out o) 2).trans rfl
   have hne : wr.heap.size ≠ g5 := by have := blk_lt h5.out; omega
   have hne1 : wr.heap.size ≠ g1 := by have := blk_lt h1.out; omega
   go_wp2_with (first
    | (go_at_call 53; refine (imageBy_calls 56 #[.pointer (some ⟨wr.heap.size, 0, none⟩)] (turnPx a b p d) b a p (by omega) (by omega) _ (enters_of Try.func56 (by kernel_rfl) rfl) HPL.out (fun W x y hx hy hW => turn1_calls a b p (some ⟨gr, 0, none⟩) cr d HV.out HCR.out x y (by omega) (by omega) wr.heap.size W (blk_below (blk_new _ _) hW) (Kd.C_below (Kd.C_alloc HCO.out _) hW))).mono ?_; rintro e w6 ⟨v6, rfl, hr6, hb6⟩; have HB6 := mk (below_then (below_alloc hb.out _) (below_alloc hb.out _).size hb6); have h56 := mk (blk_below (blk_alloc h5.out _) hb6); have h26 := mk (blk_below (blk_alloc h2.out _) hb6); have h16 := mk (blk_below (blk_alloc h1.out _) hb6); have HR6 := mk (Kd.R_lower hr6 (below_alloc hb.out _).size); have q0 := blk_cell h56.out 0; have q1 := blk_cell h56.out 1; have q2 := blk_cell h56.out 2; have q3 := blk_cell h56.out 3; have u0 := blk_frozen h56.out 0; have u1 := blk_frozen h56.out 1; have u2 := blk_frozen h56.out 2; have u3 := blk_frozen h56.out 3; obtain ⟨A6, c6, ev6⟩ := Kd.R_slice HR6.out; subst ev6; clear hr6 hb6))
   have RR := Kd.R_types HR6.out h56.out (by decide)
   have H56 := h56.out
   refine ⟨⟨.inr ⟨rfl, .slice A6 (imgD (turnPx a b p d) b a).length c6, ⟨?_⟩, ⟨Kd.R_mono (Kd.R_far (Kd.R_far (Kd.R_far (Kd.R_far RR (fun k hk => hk.2) _) (fun k hk => hk.2) _) (fun k hk => hk.2) _) (fun k hk => hk.2) _) (fun _ _ => trivial)⟩⟩, ⟨blk_far (blk_far (blk_far (blk_far h16.out (by simp; omega) _) (by simp; omega) _) (by simp; omega) _) (by simp; omega) _⟩, ⟨blk_far (blk_far (blk_far (blk_far h26.out (by simp; omega) _) (by simp; omega) _) (by simp; omega) _) (by simp; omega) _⟩, ⟨below_set (below_set (below_set (below_set HB6.out (by omega)) (by omega)) (by omega)) (by omega)⟩⟩, by simp [intOf]⟩
   refine blk_put (cs := #[.int .i64 (b : Int), .int .i64 (a : Int), .int .i64 p, .slice (some ⟨gr, 0, none⟩) d.length cr]) ?_ 3 _ rfl
   refine blk_put (cs := #[.int .i64 (b : Int), .int .i64 (a : Int), .int .i64 p, .slice (some ⟨gr, 0, none⟩) d.length cr]) ?_ 2 _ rfl
   refine blk_put (cs := #[.int .i64 (b : Int), .int .i64 (b : Int), .int .i64 p, .slice (some ⟨gr, 0, none⟩) d.length cr]) ?_ 1 _ rfl
   exact blk_put (cs := #[.int .i64 (a : Int), .int .i64 (b : Int), .int .i64 p, .slice (some ⟨gr, 0, none⟩) d.length cr]) H56 0 _ rfl
  have m0 := blk_cell h5.out 0; have m1 := blk_cell h5.out 1; have m2 := blk_cell h5.out 2; have m3 := blk_cell h5.out 3
  have z0 := blk_cell h2.out 0; have z1 := blk_cell h2.out 1; have z2 := blk_cell h2.out 2; have z3 := blk_cell h2.out 3
  have y0 := blk_frozen h2.out 0; have y1 := blk_frozen h2.out 1; have y2 := blk_frozen h2.out 2; have y3 := blk_frozen h2.out 3
  obtain ⟨A6, c6, ev6⟩ := Kd.R_slice hr.out
  subst ev6
  go_wp2
  have G2 := Gg2.out
  have RR := Kd.R_types hr.out h2.out (by decide)
  refine bodyPost_ret (results_cell_row rfl _ _ g2 28 #[.int .i64 (b : Int), .int .i64 (a : Int), .int .i64 p, .slice A6 (imgD (turnPx a b p d) b a).length c6] (0, 0) _ rfl (by
   refine blk_put (cs := #[.int .i64 (b : Int), .int .i64 (a : Int), .int .i64 p, .slice none 0 0]) ?_ 3 _ rfl
   refine blk_put (cs := #[.int .i64 (b : Int), .int .i64 (a : Int), .int .i64 0, .slice none 0 0]) ?_ 2 _ rfl
   refine blk_put (cs := #[.int .i64 (b : Int), .int .i64 0, .int .i64 0, .slice none 0 0]) ?_ 1 _ rfl
   refine blk_put (cs := #[.int .i64 0, .int .i64 0, .int .i64 0, .slice none 0 0]) ?_ 0 _ rfl
   exact h2.out
   ) hu rfl (by kernel_rfl)) rfl ?_
  exact ⟨_, rfl, Kd.R_mono (Kd.R_far (Kd.R_far (Kd.R_far (Kd.R_far RR (fun k hk => hk.2) _) (fun k hk => hk.2) _) (fun k hk => hk.2) _) (fun k hk => hk.2) _) (fun _ _ => trivial), below_set (below_set (below_set (below_set hb.out (by omega)) (by omega)) (by omega)) (by omega)⟩
theorem impl_TurnImage.calls (a b p : Int) (A : Option Addr) (c : Nat) (d : List Int) (k : Int) (r1 r2 r3 : Int) (r4 : List Int) (w : World) (hr0_3 : Kd.C (Kd.int .i64) w A d.length d) (hc0_3 : d.length ≤ c) (h : impl_TurnImage.f a b p d k = some (r1, r2, r3, r4)) :
  Calls Try.prog 26 #[.agg #[.int .i64 a, .int .i64 b, .int .i64 p, .slice A d.length c], .int .i64 k] w fun e w' => ∃ v3_ : Value, e = .returned (.agg #[.int .i64 r1, .int .i64 r2, .int .i64 r3, v3_]) ∧ Kd.R (Kd.int .i64) 3 w' w.heap.size (fun _ => True) v3_ r4 ∧ Below w.heap.size w w' := by
 unfold impl_TurnImage.f at h
 by_cases hk : k = 1
 ·subst hk
  rw [if_pos rfl] at h
  have hv := Option.some.inj h
  cases hv1 : validI a b p d with
  | false =>
   rw [hv1, if_neg (by simp)] at hv
   obtain ⟨rfl, rfl, rfl, rfl⟩ : 0 = r1 ∧ 0 = r2 ∧ 0 = r3 ∧ [] = r4 := by simpa using hv
   exact turn_no a b p A c d w hr0_3 hc0_3 hv1
  | true =>
   have hs := ((validI_iff a b p d).1 hv1).1
   obtain ⟨an, rfl⟩ := Int.eq_ofNat_of_zero_le (show 0 ≤ a by omega)
   obtain ⟨bn, rfl⟩ := Int.eq_ofNat_of_zero_le (show 0 ≤ b by omega)
   rw [hv1, if_pos rfl] at hv
   obtain ⟨rfl, rfl, rfl, rfl⟩ : (bn : Int) = r1 ∧ (an : Int) = r2 ∧ p = r3 ∧ imgD (turnPx an bn p d) bn an = r4 := by simpa using hv
   exact turn_yes an bn p A c d w hr0_3 hc0_3 hv1
 rw [if_neg hk] at h; cases h

/- impl.mapImage: a copy of an image with each number replaced. -/

def mapped (f : Int → Int) (d : List Int) (i : Nat) : List Int := (d.take i).map f ++ d.drop i
theorem mapped_length (f : Int → Int) (d : List Int) (i : Nat) : (mapped f d i).length = d.length := by simp only [mapped, List.length_append, List.length_map, List.length_take, List.length_drop]; omega
theorem mapped_get (f : Int → Int) (d : List Int) (i : Nat) (h : i < d.length) : (mapped f d i).getD i 0 = d[i] := by
 unfold mapped
 rw [List.getD_eq_getElem?_getD, List.getElem?_append_right (by simp; omega)]
 simp [Nat.min_eq_left (Nat.le_of_lt h), List.getElem?_eq_getElem h]
theorem mapped_set (f : Int → Int) (d : List Int) (i : Nat) (h : i < d.length) : (mapped f d i).set i (f d[i]) = mapped f d (i + 1) := by
 unfold mapped
 rw [List.set_append_right _ _ (by simp; omega), List.take_succ_eq_append_getElem h, List.map_append, List.append_assoc]
 congr 1
 rw [List.length_map, List.length_take, Nat.min_eq_left (Nat.le_of_lt h), Nat.sub_self, List.drop_eq_getElem_cons h]
 rfl
theorem mapped_zero (f : Int → Int) (d : List Int) : mapped f d 0 = d := by simp [mapped]
theorem mapped_all (f : Int → Int) (d : List Int) : mapped f d d.length = d.map f := by simp [mapped]
theorem mapped_cell {W : World} {base gr cr : Nat} {ok : Nat → Prop} {f : Int → Int} {d : List Int} {i : Nat} (h : Kd.R (Kd.int .i64) 3 W base ok (.slice (some ⟨gr, 0, none⟩) d.length cr) (mapped f d i)) (hi : i < d.length) : W.cell? ⟨gr, i, none⟩ = some (.int .i64 (d[i]'hi)) ∧ W.frozen? ⟨gr, i, none⟩ = false := by
 have := Kd.R_celln 0 h (i : Int) (by omega) (by omega)
 unfold rdOf at this
 rw [Int.toNat_natCast, mapped_get f d i hi] at this
 exact this
theorem mapped_put {W : World} {base gr cr : Nat} {ok : Nat → Prop} {f : Int → Int} {d : List Int} {i : Nat} (h : Kd.R (Kd.int .i64) 3 W base ok (.slice (some ⟨gr, 0, none⟩) d.length cr) (mapped f d i)) (hi : i < d.length) : Kd.R (Kd.int .i64) 3 (W.setCell ⟨gr, i, none⟩ (.int .i64 (f (d[i]'hi)))) base ok (.slice (some ⟨gr, 0, none⟩) d.length cr) (mapped f d (i + 1)) := by
 have := Kd.R_putn h (i : Int) (f (d[i]'hi))
 rw [Int.toNat_natCast, mapped_set f d i hi] at this
 exact this
theorem mapped_below {W W' : World} {base gr cr : Nat} {ok : Nat → Prop} {f : Int → Int} {d : List Int} {i : Nat} (h : Kd.R (Kd.int .i64) 3 W base ok (.slice (some ⟨gr, 0, none⟩) d.length cr) (mapped f d i)) (hb : Below W.heap.size W W') : Kd.R (Kd.int .i64) 3 W' base ok (.slice (some ⟨gr, 0, none⟩) d.length cr) (mapped f d i) := Kd.R_below h hb

set_option maxHeartbeats 4000000 in
set_option maxRecDepth 100000 in
theorem map_calls (q : Nat) (f : Int → Int) (a b p : Int) (A : Option Addr) (c : Nat) (d : List Int) (hc : d.length ≤ c) (hl : d.length ≤ 1024) (hne : 0 < d.length) (w : World) (hr : Kd.C (Kd.int .i64) w A d.length d)
  (eg : ∀ args W, (callFunc q args).run Try.prog W = .ok (.enter q args) W)
  (hp : ∀ (W : World) (n : Int), n ∈ d → Calls Try.prog q #[.int .i64 n] W fun e W' => e = .returned (.int .i64 (f n)) ∧ Below W.heap.size W W') :
  Calls Try.prog 57 #[.agg #[.int .i64 a, .int .i64 b, .int .i64 p, .slice A d.length c], .func (.func q) #[] #[]] w fun e w' => ∃ v3_ : Value, e = .returned (.agg #[.int .i64 a, .int .i64 b, .int .i64 p, v3_]) ∧ Kd.R (Kd.int .i64) 3 w' w.heap.size (fun _ => True) v3_ (d.map f) ∧ Below w.heap.size w w' := by
 have HC := mk hc
 have HR := mk hr
 have HP := mk hp
 have HNE := mk hne
 have HB0 := mk (Below.refl w.heap.size w)
 have HCP := mk (show impl_copyImage.f a b p d = some (a, b, p, d) from by
  unfold impl_copyImage.f
  simp only [Option.bind_some]
  rw [if_pos (by simp; omega)]
  simp)
 have hu := Try.underlying28
 have hui := Try.underlying22
 clear hc hr hp hne
 go_enter Try.func57, Try.ntmps57
 go_wp2_with (first | ((with_reducible refine gate_dst (N := 2) rfl ?_); refine box_event (by rfl) (N := 2) (by rfl) (cs := #[.int .i64 a, .int .i64 b, .int .i64 p, .slice A d.length c]) (t := 28) (by go_simp; done) ?_; intro g1 hg_ w1 hbox hb; have HB1 := mk (below_then HB0.out HB0.out.size hb); have K1 := mk hbox; have Gg1 := mk (show w.heap.size ≤ g1 from by rw [hg_]; exact HB0.out.size); clear hbox hb hg_) | ((with_reducible refine gate_dst (N := 4) rfl ?_); refine box_event (by rfl) (N := 4) (by rfl) (cs := #[.int .i64 0, .int .i64 0, .int .i64 0, .slice none 0 0]) (t := 28) (by go_simp; done) ?_; intro g2 hg_ w2 hbox hb; have HB2 := mk (below_then HB1.out HB1.out.size hb); have K2 := mk hbox; have Gg2 := mk (show w.heap.size ≤ g2 from by rw [hg_]; exact HB1.out.size); have K1b := mk (blk_below K1.out hb); have f0 : w2.cell? ⟨g1, 0, none⟩ = some (.int .i64 a) := (blk_cell K1b.out 0).trans rfl; have f1 : w2.cell? ⟨g1, 1, none⟩ = some (.int .i64 b) := (blk_cell K1b.out 1).trans rfl; have f2 : w2.cell? ⟨g1, 2, none⟩ = some (.int .i64 p) := (blk_cell K1b.out 2).trans rfl; have f3 : w2.cell? ⟨g1, 3, none⟩ = some (.slice A d.length c) := (blk_cell K1b.out 3).trans rfl; clear hbox hb hg_) | (go_at_call 44; (with_reducible refine (impl_copyImage.calls a b p A c d a b p d w2 (Kd.C_below HR.out HB2.out) HC.out HCP.out).mono ?_); rintro e w3 ⟨v3, rfl, hr3, hb3⟩; have HB3 := mk (below_then HB2.out HB2.out.size hb3); have HR3 := mk (Kd.R_lower hr3 HB2.out.size); have K2c := mk (blk_below K2.out hb3); obtain ⟨gr, cr, e3, hgr, hgl, _⟩ := Kd.R_form hr3 HNE.out; subst e3; have GR := mk hgr; have GL := mk hgl; clear hr3 hb3 hgr hgl))
 have K2c := K2c.out
 have HB3 := HB3.out
 have HR3 := HR3.out
 have GR := GR.out
 have GL := GL.out
 have HNE := HNE.out
 have HP := HP.out
 have HGM := blk_new w3 (.cells #[.int .i64 a, .int .i64 b, .int .i64 p, .slice (some ⟨gr, 0, none⟩) d.length cr] 28 (0, 0))
 have SZ := blk_lt K2.out
 have GG2 := Gg2.out
 have SB1 := HB1.out.size
 go_loopw [13] (fun v13 W => ∃ i : Nat, v13 = .int .i64 i ∧ i ≤ d.length ∧ Kd.R (Kd.int .i64) 3 W w.heap.size (fun k => k = gr) (.slice (some ⟨gr, 0, none⟩) d.length cr) (mapped f d i) ∧ W.heap[w3.heap.size]? = some (.cells #[.int .i64 a, .int .i64 b, .int .i64 p, .slice (some ⟨gr, 0, none⟩) d.length cr] 28 (0, 0)) ∧ W.heap[g2]? = some (.cells #[.int .i64 0, .int .i64 0, .int .i64 0, .slice none 0 0] 28 (0, 0)) ∧ Aside0 (Below w.heap.size w W)) (fun v13 _ => d.length - (intOf v13).toNat)
 case atStart => exact ⟨0, rfl, by omega, by rw [mapped_zero]; exact Kd.R_alloc (Kd.R_mono (Kd.R_tight rfl HR3) (fun k hk => by simpa [Value.ownBlock] using hk)) _, HGM, blk_alloc K2c _, ⟨below_alloc HB3 _⟩⟩
 case round =>
  obtain ⟨i, rfl, hi, hr, hm, h2, hb⟩ := hrel
  by_cases hlt : i < d.length
  ·have hdi : decide ((i : Int) < (d.length : Int)) = true := by simp; omega
   obtain ⟨hce, hcf⟩ := mapped_cell hr hlt
   have m0 := blk_cell hm 0; have m1 := blk_cell hm 1; have m2 := blk_cell hm 2; have m3 := blk_cell hm 3
   go_wp2
   go_region_with (first | (go_at_fn q; refine (HP _ (d[i]'hlt) (List.getElem_mem hlt)).mono ?_; rintro e w' ⟨rfl, hb2⟩; have HRn := mk (mapped_below (W := wr.drew) (Kd.R_drew hr) hb2); have HMn := mk (blk_below (w := wr.drew) hm hb2); have H2n := mk (blk_below (w := wr.drew) h2 hb2); have HBn := mk (below_then (below_drew hb.out) (below_drew hb.out).size hb2); have m3n := blk_cell HMn.out 3; obtain ⟨hcen, hcfn⟩ := mapped_cell HRn.out hlt; clear hb2))
   all_goals
    go_wp2
    go_roundw
    case rel => exact ⟨i + 1, by go_num, by omega, mapped_put HRn.out hlt, blk_far HMn.out (by simp; omega) _, blk_far H2n.out (by simp; omega) _, ⟨below_set HBn.out (by have := HB2.out.size; omega)⟩⟩
    case measure => simp [intOf]; omega
  have hdi : decide ((i : Int) < (d.length : Int)) = false := by simp; omega
  have hil : i = d.length := by omega
  subst hil
  rw [mapped_all] at hr
  have m0 := blk_cell hm 0; have m1 := blk_cell hm 1; have m2 := blk_cell hm 2; have m3 := blk_cell hm 3
  have z0 := blk_cell h2 0; have z1 := blk_cell h2 1; have z2 := blk_cell h2 2; have z3 := blk_cell h2 3
  have y0 := blk_frozen h2 0; have y1 := blk_frozen h2 1; have y2 := blk_frozen h2 2; have y3 := blk_frozen h2 3
  go_wp2
  refine bodyPost_ret (results_cell_row rfl _ _ g2 28 #[.int .i64 a, .int .i64 b, .int .i64 p, .slice (some ⟨gr, 0, none⟩) d.length cr] (0, 0) _ rfl (by
   refine blk_put (cs := #[.int .i64 a, .int .i64 b, .int .i64 p, .slice none 0 0]) ?_ 3 _ rfl
   refine blk_put (cs := #[.int .i64 a, .int .i64 b, .int .i64 0, .slice none 0 0]) ?_ 2 _ rfl
   refine blk_put (cs := #[.int .i64 a, .int .i64 0, .int .i64 0, .slice none 0 0]) ?_ 1 _ rfl
   refine blk_put (cs := #[.int .i64 0, .int .i64 0, .int .i64 0, .slice none 0 0]) ?_ 0 _ rfl
   exact h2) hu rfl (by kernel_rfl)) rfl ?_
  exact ⟨_, rfl, Kd.R_mono (Kd.R_far (Kd.R_far (Kd.R_far (Kd.R_far hr (fun k hk => by subst hk; simp; omega) _) (fun k hk => by subst hk; simp; omega) _) (fun k hk => by subst hk; simp; omega) _) (fun k hk => by subst hk; simp; omega) _) (fun _ _ => trivial), below_set (below_set (below_set (below_set hb.out (by omega)) (by omega)) (by omega)) (by omega)⟩
end Go.Proofs.Ytgccpcnakkioiaa.Q

namespace Go.Proofs.Ytgccpcnakkioiaa.Q
open Go.RowKit Go.Proofs.YtgccpcnakkioiaaW.PrintWords Go.Proofs.YtgccpcnakkioiaaW.PrintLast Go.Proofs.YtgccpcnakkioiaaW.PrintMore
attribute [local go_sem] max2_int min2_int max_two min_two max_three min_three max_four min_four
set_option linter.unusedVariables false
set_option linter.unusedSimpArgs false
def impl_InvertImage_1.f (a0 : Int) : Option (Int) := some (wrap64 (255 - a0))
set_option maxHeartbeats 8000000 in
set_option maxRecDepth 100000 in
theorem impl_InvertImage_1.calls (a0 : Int) (r : Int) (w : World) (h : impl_InvertImage_1.f a0 = some r) :
  Calls Try.prog 58 #[.int .i64 a0] w fun e w' => e = .returned (.int .i64 r) ∧ Drawn0 w w' := by
 have H : (some (wrap64 (255 - a0))) = some r := h
 clear h
 obtain rfl := Option.some.inj H
 go_enter Try.func58, Try.ntmps58
 go_wp2
 go_ret
 exact ⟨by first | rfl | (simp; done) | (simp [*]; done), by repeat (first | exact Drawn0.refl _ | apply Drawn0.step)⟩

end Go.Proofs.Ytgccpcnakkioiaa.Q

/- impl.InvertImage: each number subtracted from 255. -/
namespace Go.Proofs.Ytgccpcnakkioiaa.Q
open Go.RowKit Go.Proofs.YtgccpcnakkioiaaW.PrintWords Go.Proofs.YtgccpcnakkioiaaW.PrintLast Go.Proofs.YtgccpcnakkioiaaW.PrintMore
open Go.Proofs.YtgccpcnakkioiaaW.PrintWords.Aside0 (mk)
attribute [local go_sem] max2_int min2_int max_two min_two max_three min_three max_four min_four
set_option linter.unusedVariables false
set_option linter.unusedSimpArgs false
open Go.Proofs.Ytgccpcnakkioiaa.Pure

def invD (d : List Int) : List Int := d.map (fun n => wrap64 (255 - n))
def impl_InvertImage.f (a b p : Int) (d : List Int) : Option (Int × Int × Int × List Int) := some (if validI a b p d = true then (a, b, p, invD d) else (0, 0, 0, []))

set_option maxHeartbeats 4000000 in
set_option maxRecDepth 100000 in
theorem impl_InvertImage.calls (a b p : Int) (A : Option Addr) (c : Nat) (d : List Int) (r1 r2 r3 : Int) (r4 : List Int) (w : World) (hr0_3 : Kd.C (Kd.int .i64) w A d.length d) (hc0_3 : d.length ≤ c) (h : impl_InvertImage.f a b p d = some (r1, r2, r3, r4)) :
  Calls Try.prog 27 #[.agg #[.int .i64 a, .int .i64 b, .int .i64 p, .slice A d.length c]] w fun e w' => ∃ v3_ : Value, e = .returned (.agg #[.int .i64 r1, .int .i64 r2, .int .i64 r3, v3_]) ∧ Kd.R (Kd.int .i64) 3 w' w.heap.size (fun _ => True) v3_ r4 ∧ Below w.heap.size w w' := by
 have hv := Option.some.inj h
 clear h
 have HC := mk hc0_3
 have HR := mk hr0_3
 have HB0 := mk (Below.refl w.heap.size w)
 have E1 := mk (impl_isImage_eq a b p d)
 have hu := Try.underlying28
 clear hr0_3 hc0_3
 cases hv1 : validI a b p d with
 | false =>
  rw [hv1, if_neg (by simp)] at hv
  obtain ⟨rfl, rfl, rfl, rfl⟩ : 0 = r1 ∧ 0 = r2 ∧ 0 = r3 ∧ [] = r4 := by simpa using hv
  rw [hv1] at E1
  clear hv1 hv
  go_enter Try.func27, Try.ntmps27
  go_wp2_with (first
   | ((with_reducible refine gate_dst (N := 1) rfl ?_); refine box_event ?hg (N := 1) ?hd (cs := #[.int .i64 a, .int .i64 b, .int .i64 p, .slice A d.length c]) (t := 28) ?hr ?_; (case hd => rfl); (case hg => rfl); (case hr => first | (go_simp; done) | (go_simp; rfl)); intro g1 hg_ w1 hbox hb; have HB1 := mk (below_then HB0.out HB0.out.size hb); have K1 := mk hbox; have Gg1 := mk (show w.heap.size ≤ g1 from by rw [hg_]; exact HB0.out.size); have f0 : w1.cell? ⟨g1, 0, none⟩ = some (.int .i64 a) := (blk_cell K1.out 0).trans rfl; have f1 : w1.cell? ⟨g1, 1, none⟩ = some (.int .i64 b) := (blk_cell K1.out 1).trans rfl; have f2 : w1.cell? ⟨g1, 2, none⟩ = some (.int .i64 p) := (blk_cell K1.out 2).trans rfl; have f3 : w1.cell? ⟨g1, 3, none⟩ = some (.slice A d.length c) := (blk_cell K1.out 3).trans rfl; clear hbox hb hg_)
   | ((with_reducible refine gate_dst (N := 2) rfl ?_); refine box_event ?hg (N := 2) ?hd (cs := #[.int .i64 0, .int .i64 0, .int .i64 0, .slice none 0 0]) (t := 28) ?hr ?_; (case hd => rfl); (case hg => rfl); (case hr => first | (go_simp; done) | (go_simp; rfl)); intro g2 hg_ w2 hbox hb; have HB2 := mk (below_then HB1.out HB1.out.size hb); have K2 := mk hbox; have Gg2 := mk (show w.heap.size ≤ g2 from by rw [hg_]; exact HB1.out.size); have K1b := mk (blk_below K1.out hb); have f0 : w2.cell? ⟨g1, 0, none⟩ = some (.int .i64 a) := (blk_cell K1b.out 0).trans rfl; have f1 : w2.cell? ⟨g1, 1, none⟩ = some (.int .i64 b) := (blk_cell K1b.out 1).trans rfl; have f2 : w2.cell? ⟨g1, 2, none⟩ = some (.int .i64 p) := (blk_cell K1b.out 2).trans rfl; have f3 : w2.cell? ⟨g1, 3, none⟩ = some (.slice A d.length c) := (blk_cell K1b.out 3).trans rfl; clear hbox hb hg_)
   | (go_at_call 43; (with_reducible refine (impl_isImage.calls a b p A c d _ w2 (Kd.C_below HR.out HB2.out) HC.out E1.out).mono ?_); rintro e w3 ⟨rfl, hb3⟩; have HB3 := mk (below_then HB2.out HB2.out.size hb3); have K1c := mk (blk_below K1b.out hb3); have K2c := mk (blk_below K2.out hb3); have e0 : w3.cell? ⟨g1, 0, none⟩ = some (.int .i64 a) := (blk_cell K1c.out 0).trans rfl; have e1 : w3.cell? ⟨g1, 1, none⟩ = some (.int .i64 b) := (blk_cell K1c.out 1).trans rfl; have e2 : w3.cell? ⟨g1, 2, none⟩ = some (.int .i64 p) := (blk_cell K1c.out 2).trans rfl; have e3 : w3.cell? ⟨g1, 3, none⟩ = some (.slice A d.length c) := (blk_cell K1c.out 3).trans rfl; have z0 := blk_cell K2c.out 0; have z1 := blk_cell K2c.out 1; have z2 := blk_cell K2c.out 2; have z3 := blk_cell K2c.out 3; have y0 := blk_frozen K2c.out 0; have y1 := blk_frozen K2c.out 1; have y2 := blk_frozen K2c.out 2; have y3 := blk_frozen K2c.out 3; clear hb3))
  refine bodyPost_ret (results_cell_row rfl _ _ g2 28 #[.int .i64 0, .int .i64 0, .int .i64 0, .slice none 0 0] (0, 0) _ rfl (by
   refine blk_put (cs := #[.int .i64 0, .int .i64 0, .int .i64 0, .slice none 0 0]) ?_ 3 _ rfl
   refine blk_put (cs := #[.int .i64 0, .int .i64 0, .int .i64 0, .slice none 0 0]) ?_ 2 _ rfl
   refine blk_put (cs := #[.int .i64 0, .int .i64 0, .int .i64 0, .slice none 0 0]) ?_ 1 _ rfl
   refine blk_put (cs := #[.int .i64 0, .int .i64 0, .int .i64 0, .slice none 0 0]) ?_ 0 _ rfl
   exact K2c.out) hu rfl (by kernel_rfl)) rfl ?_
  have G2 := Gg2.out
  exact ⟨_, rfl, Kd.R_nil _ _ _ _ _, below_set (below_set (below_set (below_set HB3.out (by omega)) (by omega)) (by omega)) (by omega)⟩
 | true =>
  obtain ⟨⟨hs, hl, _⟩⟩ : Nonempty ((1 ≤ a ∧ a ≤ 16 ∧ 1 ≤ b ∧ b ≤ 16 ∧ 1 ≤ p ∧ p ≤ 4) ∧ (d.length : Int) = a * b * p ∧ True) := ⟨((validI_iff a b p d).1 hv1).1, ((validI_iff a b p d).1 hv1).2.1, trivial⟩
  have hsp := shape_prod hs
  have hpos : 0 < a * b * p := Int.mul_pos (Int.mul_pos (by omega) (by omega)) (by omega)
  have HL := mk (show d.length ≤ 1024 by omega)
  have HN := mk (show 0 < d.length by omega)
  have EG := mk (show ∀ args W, (callFunc 58 args).run Try.prog W = .ok (.enter 58 args) W from enters_of Try.func58 (by kernel_rfl) rfl)
  have EP := mk (show ∀ (W : World) (n : Int), n ∈ d → Calls Try.prog 58 #[.int .i64 n] W fun e W' => e = .returned (.int .i64 (wrap64 (255 - n))) ∧ Below W.heap.size W W' from fun W n _ => (impl_InvertImage_1.calls n _ W rfl).mono (fun e W' h => ⟨h.1, h.2.below⟩))
  clear hl hsp hpos hs
  rw [hv1, if_pos rfl] at hv
  obtain ⟨rfl, rfl, rfl, rfl⟩ : a = r1 ∧ b = r2 ∧ p = r3 ∧ invD d = r4 := by simpa using hv
  rw [hv1] at E1
  clear hv1 hv
  go_enter Try.func27, Try.ntmps27
  go_wp2_with (first
   | ((with_reducible refine gate_dst (N := 1) rfl ?_); refine box_event ?hg (N := 1) ?hd (cs := #[.int .i64 a, .int .i64 b, .int .i64 p, .slice A d.length c]) (t := 28) ?hr ?_; (case hd => rfl); (case hg => rfl); (case hr => first | (go_simp; done) | (go_simp; rfl)); intro g1 hg_ w1 hbox hb; have HB1 := mk (below_then HB0.out HB0.out.size hb); have K1 := mk hbox; have Gg1 := mk (show w.heap.size ≤ g1 from by rw [hg_]; exact HB0.out.size); have f0 : w1.cell? ⟨g1, 0, none⟩ = some (.int .i64 a) := (blk_cell K1.out 0).trans rfl; have f1 : w1.cell? ⟨g1, 1, none⟩ = some (.int .i64 b) := (blk_cell K1.out 1).trans rfl; have f2 : w1.cell? ⟨g1, 2, none⟩ = some (.int .i64 p) := (blk_cell K1.out 2).trans rfl; have f3 : w1.cell? ⟨g1, 3, none⟩ = some (.slice A d.length c) := (blk_cell K1.out 3).trans rfl; clear hbox hb hg_)
   | ((with_reducible refine gate_dst (N := 2) rfl ?_); refine box_event ?hg (N := 2) ?hd (cs := #[.int .i64 0, .int .i64 0, .int .i64 0, .slice none 0 0]) (t := 28) ?hr ?_; (case hd => rfl); (case hg => rfl); (case hr => first | (go_simp; done) | (go_simp; rfl)); intro g2 hg_ w2 hbox hb; have HB2 := mk (below_then HB1.out HB1.out.size hb); have K2 := mk hbox; have Gg2 := mk (show w.heap.size ≤ g2 from by rw [hg_]; exact HB1.out.size); have K1b := mk (blk_below K1.out hb); have f0 : w2.cell? ⟨g1, 0, none⟩ = some (.int .i64 a) := (blk_cell K1b.out 0).trans rfl; have f1 : w2.cell? ⟨g1, 1, none⟩ = some (.int .i64 b) := (blk_cell K1b.out 1).trans rfl; have f2 : w2.cell? ⟨g1, 2, none⟩ = some (.int .i64 p) := (blk_cell K1b.out 2).trans rfl; have f3 : w2.cell? ⟨g1, 3, none⟩ = some (.slice A d.length c) := (blk_cell K1b.out 3).trans rfl; clear hbox hb hg_)
   | (go_at_call 43; (with_reducible refine (impl_isImage.calls a b p A c d _ w2 (Kd.C_below HR.out HB2.out) HC.out E1.out).mono ?_); rintro e w3 ⟨rfl, hb3⟩; have HB3 := mk (below_then HB2.out HB2.out.size hb3); have K1c := mk (blk_below K1b.out hb3); have K2c := mk (blk_below K2.out hb3); have e0 : w3.cell? ⟨g1, 0, none⟩ = some (.int .i64 a) := (blk_cell K1c.out 0).trans rfl; have e1 : w3.cell? ⟨g1, 1, none⟩ = some (.int .i64 b) := (blk_cell K1c.out 1).trans rfl; have e2 : w3.cell? ⟨g1, 2, none⟩ = some (.int .i64 p) := (blk_cell K1c.out 2).trans rfl; have e3 : w3.cell? ⟨g1, 3, none⟩ = some (.slice A d.length c) := (blk_cell K1c.out 3).trans rfl; have z0 := blk_cell K2c.out 0; have z1 := blk_cell K2c.out 1; have z2 := blk_cell K2c.out 2; have z3 := blk_cell K2c.out 3; have y0 := blk_frozen K2c.out 0; have y1 := blk_frozen K2c.out 1; have y2 := blk_frozen K2c.out 2; have y3 := blk_frozen K2c.out 3; clear hb3)
   | (go_at_call 57; (with_reducible refine (map_calls 58 (fun n => wrap64 (255 - n)) a b p A c d HC.out HL.out HN.out w3 (Kd.C_below HR.out HB3.out) EG.out EP.out).mono ?_); rintro e w4 ⟨v4, rfl, hr4, hb4⟩; have HB4 := mk (below_then HB3.out HB3.out.size hb4); obtain ⟨gr, cr, e4, _, _, _⟩ := Kd.R_form hr4 (by rw [List.length_map]; exact HN.out); subst e4; simp only [List.length_map] at hr4; have HR4 := mk (Kd.R_lower hr4 HB3.out.size); have K2d := mk (blk_below K2c.out hb4); have x0 := blk_cell K2d.out 0; have x1 := blk_cell K2d.out 1; have x2 := blk_cell K2d.out 2; have x3 := blk_cell K2d.out 3; have u0 := blk_frozen K2d.out 0; have u1 := blk_frozen K2d.out 1; have u2 := blk_frozen K2d.out 2; have u3 := blk_frozen K2d.out 3; clear hr4 hb4))
  have G2 := Gg2.out
  have RR := Kd.R_types HR4.out K2d.out (by decide)
  refine bodyPost_ret (results_cell_row rfl _ _ g2 28 #[.int .i64 a, .int .i64 b, .int .i64 p, .slice (some ⟨gr, 0, none⟩) d.length cr] (0, 0) _ rfl (by
   refine blk_put (cs := #[.int .i64 a, .int .i64 b, .int .i64 p, .slice none 0 0]) ?_ 3 _ rfl
   refine blk_put (cs := #[.int .i64 a, .int .i64 b, .int .i64 0, .slice none 0 0]) ?_ 2 _ rfl
   refine blk_put (cs := #[.int .i64 a, .int .i64 0, .int .i64 0, .slice none 0 0]) ?_ 1 _ rfl
   refine blk_put (cs := #[.int .i64 0, .int .i64 0, .int .i64 0, .slice none 0 0]) ?_ 0 _ rfl
   exact K2d.out) hu rfl (by kernel_rfl)) rfl ?_
  exact ⟨_, rfl, Kd.R_mono (Kd.R_far (Kd.R_far (Kd.R_far (Kd.R_far RR (fun k hk => hk.2) _) (fun k hk => hk.2) _) (fun k hk => hk.2) _) (fun k hk => hk.2) _) (fun _ _ => trivial), below_set (below_set (below_set (below_set HB4.out (by omega)) (by omega)) (by omega)) (by omega)⟩
end Go.Proofs.Ytgccpcnakkioiaa.Q

/- impl.CropImage's function value: a pixel of a part. -/
namespace Go.Proofs.Ytgccpcnakkioiaa.Q
open Go.RowKit Go.Proofs.YtgccpcnakkioiaaW.PrintWords Go.Proofs.YtgccpcnakkioiaaW.PrintLast Go.Proofs.YtgccpcnakkioiaaW.PrintMore
attribute [local go_sem] max2_int min2_int max_two min_two max_three min_three max_four min_four
set_option linter.unusedVariables false
set_option linter.unusedSimpArgs false
open Go.Proofs.Ytgccpcnakkioiaa.Pure

set_option maxHeartbeats 1600000 in
set_option maxRecDepth 100000 in
theorem crop1_calls (a b p : Int) (A : Option Addr) (c : Nat) (d : List Int) (hv : validI a b p d = true) (hc : d.length ≤ c) (X Y : Nat) (Wd Hg : Int) (x y : Nat) (hx : ((X + x : Nat) : Int) < a) (hy : ((Y + y : Nat) : Int) < b) (B : Nat) (w : World) (h1 : w.heap[B]? = some (.cells #[.int .i64 a, .int .i64 b, .int .i64 p, .slice A d.length c] 28 (0, 0))) (B2 : Nat) (h2 : w.heap[B2]? = some (.cells #[.int .i64 (X : Int), .int .i64 (Y : Int), .int .i64 Wd, .int .i64 Hg] 41 (0, 0))) (hr : Kd.C (Kd.int .i64) w A d.length d) :
  Calls Try.prog 60 (#[.int .i64 (x : Int), .int .i64 (y : Int)] ++ #[.pointer (some ⟨B, 0, none⟩), .pointer (some ⟨B2, 0, none⟩)]) w fun e w' => ∃ (A' : Option Addr) (c' : Nat), e = .returned (.slice A' (pxAt a p d (X + x) (Y + y)).length c') ∧ Kd.C (Kd.int .i64) w' A' (pxAt a p d (X + x) (Y + y)).length (pxAt a p d (X + x) (Y + y)) ∧ (pxAt a p d (X + x) (Y + y)).length ≤ c' ∧ Below w.heap.size w w' := by
 have hs := ((validI_iff a b p d).1 hv).1
 have k0 := (blk_cell h1 0).trans rfl; have k1 := (blk_cell h1 1).trans rfl; have k2 := (blk_cell h1 2).trans rfl; have k3 := (blk_cell h1 3).trans rfl
 have q0 := (blk_cell h2 0).trans rfl; have q1 := (blk_cell h2 1).trans rfl; have q2 := (blk_cell h2 2).trans rfl; have q3 := (blk_cell h2 3).trans rfl
 have hX : ((X + x : Nat) : Int) = (X : Int) + (x : Int) := by omega
 have hY : ((Y + y : Nat) : Int) = (Y : Int) + (y : Int) := by omega
 obtain ⟨A', c', hc', HA⟩ := at_px (x := X + x) (y := Y + y) A c hv hc hx hy
 have HA' := HA w hr
 rw [hX, hY] at HA'
 generalize pxAt a p d (X + x) (Y + y) = px at *
 replace HA' := Aside0.mk HA'
 clear HA hr h1 hv hc
 simp only [List.append_toArray, List.cons_append, List.nil_append]
 go_enter Try.func60, Try.ntmps60
 go_wp2_with (first | (go_at_call 55; (with_reducible refine (HA'.out.2).mono ?_); rintro e w2 ⟨rfl, hb⟩))
 go_ret
 exact ⟨A', c', rfl, Kd.C_below HA'.out.1 hb, hc', hb⟩
end Go.Proofs.Ytgccpcnakkioiaa.Q

namespace Go.Proofs.Ytgccpcnakkioiaa.Q
open Go.RowKit Go.Proofs.YtgccpcnakkioiaaW.PrintWords Go.Proofs.YtgccpcnakkioiaaW.PrintLast Go.Proofs.YtgccpcnakkioiaaW.PrintMore
open Go.Proofs.YtgccpcnakkioiaaW.PrintWords.Aside0 (mk)
attribute [local go_sem] max2_int min2_int max_two min_two max_three min_three max_four min_four
set_option linter.unusedVariables false
set_option linter.unusedSimpArgs false
def impl_isBoxOn.f (a0_0 : Int) (a0_1 : Int) (a0_2 : Int) (l0_3 : List Int) (a1_0 : Int) (a1_1 : Int) (a1_2 : Int) (a1_3 : Int) : Option Bool := if a1_0 ≥ 0 then (if a1_0 < a0_0 then (if a1_1 ≥ 0 then (if a1_1 < a0_1 then (if a1_2 ≥ 1 then (if a1_2 ≤ (wrap64 (a0_0 - a1_0)) then (if a1_3 ≥ 1 then (some (decide (a1_3 ≤ (wrap64 (a0_1 - a1_1))))) else (some false)) else (some false)) else (some false)) else (some false)) else (some false)) else (some false)) else (some false)
set_option maxHeartbeats 8000000 in
set_option maxRecDepth 100000 in
theorem impl_isBoxOn.calls (a0_0 : Int) (a0_1 : Int) (a0_2 : Int) (A0_3 : Option Addr) (c0_3 : Nat) (l0_3 : List Int) (a1_0 : Int) (a1_1 : Int) (a1_2 : Int) (a1_3 : Int) (r : Bool) (w : World) (hr0_3 : Kd.C (Kd.int .i64) w A0_3 l0_3.length l0_3) (hc0_3 : l0_3.length ≤ c0_3) (h : impl_isBoxOn.f a0_0 a0_1 a0_2 l0_3 a1_0 a1_1 a1_2 a1_3 = some r) :
  Calls Try.prog 59 #[.agg #[.int .i64 a0_0, .int .i64 a0_1, .int .i64 a0_2, .slice A0_3 l0_3.length c0_3], .agg #[.int .i64 a1_0, .int .i64 a1_1, .int .i64 a1_2, .int .i64 a1_3]] w fun e w' => e = .returned (.bool r) ∧ Below w.heap.size w w' := by
 have hu28 := Try.underlying28
 have hu41 := Try.underlying41
 have HR0_3 := mk hr0_3
 have HC0_3 := mk hc0_3
 clear hr0_3 hc0_3
 have HB := mk (Below.refl w.heap.size w)
 have H : (if a1_0 ≥ 0 then (if a1_0 < a0_0 then (if a1_1 ≥ 0 then (if a1_1 < a0_1 then (if a1_2 ≥ 1 then (if a1_2 ≤ (wrap64 (a0_0 - a1_0)) then (if a1_3 ≥ 1 then (some (decide (a1_3 ≤ (wrap64 (a0_1 - a1_1))))) else (some false)) else (some false)) else (some false)) else (some false)) else (some false)) else (some false)) else (some false)) = some r := h
 clear h
 by_cases c3 : a1_0 ≥ 0
 ·rw [if_pos c3] at H
  have c3b0 : decide (0 ≤ a1_0) = true := decide_eq_true c3
  clear c3
  by_cases c4 : a1_0 < a0_0
  ·rw [if_pos c4] at H
   have c4b0 : decide (a1_0 < a0_0) = true := decide_eq_true c4
   clear c4
   by_cases c5 : a1_1 ≥ 0
   ·rw [if_pos c5] at H
    have c5b0 : decide (0 ≤ a1_1) = true := decide_eq_true c5
    clear c5
    by_cases c6 : a1_1 < a0_1
    ·rw [if_pos c6] at H
     have c6b0 : decide (a1_1 < a0_1) = true := decide_eq_true c6
     clear c6
     by_cases c7 : a1_2 ≥ 1
     ·rw [if_pos c7] at H
      have c7b0 : decide (1 ≤ a1_2) = true := decide_eq_true c7
      clear c7
      by_cases c8 : a1_2 ≤ (wrap64 (a0_0 - a1_0))
      ·rw [if_pos c8] at H
       have c8b0 : decide (a1_2 ≤ (wrap64 (a0_0 - a1_0))) = true := decide_eq_true c8
       clear c8
       by_cases c9 : a1_3 ≥ 1
       ·rw [if_pos c9] at H
        have c9b0 : decide (1 ≤ a1_3) = true := decide_eq_true c9
        clear c9
        obtain rfl := Option.some.inj H
        go_enter Try.func59, Try.ntmps59
        go_wp2_with (first | ((with_reducible refine gate_dst (N := 2) rfl ?_); refine box_event (by rfl) (N := 2) (by rfl) (cs := #[.int .i64 a0_0, .int .i64 a0_1, .int .i64 a0_2, .slice A0_3 l0_3.length c0_3]) (t := 28) (by go_simp; done) ?_; intro gbz1 hg w10 hbox hb; replace HB := mk (below_step HB.out hb); have BKz0 := mk (hbox); clear hb hbox hg) | ((with_reducible refine gate_dst (N := 3) rfl ?_); refine box_event (by rfl) (N := 3) (by rfl) (cs := #[.int .i64 a1_0, .int .i64 a1_1, .int .i64 a1_2, .int .i64 a1_3]) (t := 41) (by go_simp; done) ?_; intro gbz0 hg w11 hbox hb; replace BKz0 := mk (blk_below BKz0.out hb); replace HB := mk (below_step HB.out hb); have BKz1 := mk (hbox); clear hb hbox hg; obtain ⟨hcz13_0, hcz13_1, hcz13_2, hcz13_3, -⟩ := c4 BKz1.out; obtain ⟨hcz14_0, hcz14_1, -⟩ := c4 BKz0.out))
        go_ret
        exact ⟨by rfl, by exact HB.out⟩
       rw [if_neg c9] at H
       have c9b0 : decide (1 ≤ a1_3) = false := decide_eq_false c9
       clear c9
       obtain rfl := Option.some.inj H
       go_enter Try.func59, Try.ntmps59
       go_wp2_with (first | ((with_reducible refine gate_dst (N := 2) rfl ?_); refine box_event (by rfl) (N := 2) (by rfl) (cs := #[.int .i64 a0_0, .int .i64 a0_1, .int .i64 a0_2, .slice A0_3 l0_3.length c0_3]) (t := 28) (by go_simp; done) ?_; intro gbz1 hg w15 hbox hb; replace HB := mk (below_step HB.out hb); have BKz0 := mk (hbox); clear hb hbox hg) | ((with_reducible refine gate_dst (N := 3) rfl ?_); refine box_event (by rfl) (N := 3) (by rfl) (cs := #[.int .i64 a1_0, .int .i64 a1_1, .int .i64 a1_2, .int .i64 a1_3]) (t := 41) (by go_simp; done) ?_; intro gbz0 hg w16 hbox hb; replace BKz0 := mk (blk_below BKz0.out hb); replace HB := mk (below_step HB.out hb); have BKz1 := mk (hbox); clear hb hbox hg; obtain ⟨hcz18_0, hcz18_1, hcz18_2, hcz18_3, -⟩ := c4 BKz1.out; obtain ⟨hcz19_0, hcz19_1, -⟩ := c4 BKz0.out))
       go_ret
       exact ⟨by rfl, by exact HB.out⟩
      rw [if_neg c8] at H
      have c8b0 : decide (a1_2 ≤ (wrap64 (a0_0 - a1_0))) = false := decide_eq_false c8
      clear c8
      obtain rfl := Option.some.inj H
      go_enter Try.func59, Try.ntmps59
      go_wp2_with (first | ((with_reducible refine gate_dst (N := 2) rfl ?_); refine box_event (by rfl) (N := 2) (by rfl) (cs := #[.int .i64 a0_0, .int .i64 a0_1, .int .i64 a0_2, .slice A0_3 l0_3.length c0_3]) (t := 28) (by go_simp; done) ?_; intro gbz1 hg w20 hbox hb; replace HB := mk (below_step HB.out hb); have BKz0 := mk (hbox); clear hb hbox hg) | ((with_reducible refine gate_dst (N := 3) rfl ?_); refine box_event (by rfl) (N := 3) (by rfl) (cs := #[.int .i64 a1_0, .int .i64 a1_1, .int .i64 a1_2, .int .i64 a1_3]) (t := 41) (by go_simp; done) ?_; intro gbz0 hg w21 hbox hb; replace BKz0 := mk (blk_below BKz0.out hb); replace HB := mk (below_step HB.out hb); have BKz1 := mk (hbox); clear hb hbox hg; obtain ⟨hcz23_0, hcz23_1, hcz23_2, -⟩ := c4 BKz1.out; obtain ⟨hcz24_0, hcz24_1, -⟩ := c4 BKz0.out))
      go_ret
      exact ⟨by rfl, by exact HB.out⟩
     rw [if_neg c7] at H
     have c7b0 : decide (1 ≤ a1_2) = false := decide_eq_false c7
     clear c7
     obtain rfl := Option.some.inj H
     go_enter Try.func59, Try.ntmps59
     go_wp2_with (first | ((with_reducible refine gate_dst (N := 2) rfl ?_); refine box_event (by rfl) (N := 2) (by rfl) (cs := #[.int .i64 a0_0, .int .i64 a0_1, .int .i64 a0_2, .slice A0_3 l0_3.length c0_3]) (t := 28) (by go_simp; done) ?_; intro gbz1 hg w25 hbox hb; replace HB := mk (below_step HB.out hb); have BKz0 := mk (hbox); clear hb hbox hg) | ((with_reducible refine gate_dst (N := 3) rfl ?_); refine box_event (by rfl) (N := 3) (by rfl) (cs := #[.int .i64 a1_0, .int .i64 a1_1, .int .i64 a1_2, .int .i64 a1_3]) (t := 41) (by go_simp; done) ?_; intro gbz0 hg w26 hbox hb; replace BKz0 := mk (blk_below BKz0.out hb); replace HB := mk (below_step HB.out hb); have BKz1 := mk (hbox); clear hb hbox hg; obtain ⟨hcz28_0, hcz28_1, hcz28_2, -⟩ := c4 BKz1.out; obtain ⟨hcz29_0, hcz29_1, -⟩ := c4 BKz0.out))
     go_ret
     exact ⟨by rfl, by exact HB.out⟩
    rw [if_neg c6] at H
    have c6b0 : decide (a1_1 < a0_1) = false := decide_eq_false c6
    clear c6
    obtain rfl := Option.some.inj H
    go_enter Try.func59, Try.ntmps59
    go_wp2_with (first | ((with_reducible refine gate_dst (N := 2) rfl ?_); refine box_event (by rfl) (N := 2) (by rfl) (cs := #[.int .i64 a0_0, .int .i64 a0_1, .int .i64 a0_2, .slice A0_3 l0_3.length c0_3]) (t := 28) (by go_simp; done) ?_; intro gbz1 hg w30 hbox hb; replace HB := mk (below_step HB.out hb); have BKz0 := mk (hbox); clear hb hbox hg) | ((with_reducible refine gate_dst (N := 3) rfl ?_); refine box_event (by rfl) (N := 3) (by rfl) (cs := #[.int .i64 a1_0, .int .i64 a1_1, .int .i64 a1_2, .int .i64 a1_3]) (t := 41) (by go_simp; done) ?_; intro gbz0 hg w31 hbox hb; replace BKz0 := mk (blk_below BKz0.out hb); replace HB := mk (below_step HB.out hb); have BKz1 := mk (hbox); clear hb hbox hg; obtain ⟨hcz33_0, hcz33_1, -⟩ := c4 BKz1.out; obtain ⟨hcz34_0, hcz34_1, -⟩ := c4 BKz0.out))
    go_ret
    exact ⟨by rfl, by exact HB.out⟩
   rw [if_neg c5] at H
   have c5b0 : decide (0 ≤ a1_1) = false := decide_eq_false c5
   clear c5
   obtain rfl := Option.some.inj H
   go_enter Try.func59, Try.ntmps59
   go_wp2_with (first | ((with_reducible refine gate_dst (N := 2) rfl ?_); refine box_event (by rfl) (N := 2) (by rfl) (cs := #[.int .i64 a0_0, .int .i64 a0_1, .int .i64 a0_2, .slice A0_3 l0_3.length c0_3]) (t := 28) (by go_simp; done) ?_; intro gbz1 hg w35 hbox hb; replace HB := mk (below_step HB.out hb); have BKz0 := mk (hbox); clear hb hbox hg) | ((with_reducible refine gate_dst (N := 3) rfl ?_); refine box_event (by rfl) (N := 3) (by rfl) (cs := #[.int .i64 a1_0, .int .i64 a1_1, .int .i64 a1_2, .int .i64 a1_3]) (t := 41) (by go_simp; done) ?_; intro gbz0 hg w36 hbox hb; replace BKz0 := mk (blk_below BKz0.out hb); replace HB := mk (below_step HB.out hb); have BKz1 := mk (hbox); clear hb hbox hg; obtain ⟨hcz38_0, hcz38_1, -⟩ := c4 BKz1.out; have hcz39_0 : w36.cell? ⟨gbz1, 0, none⟩ = some (.int .i64 a0_0) := (blk_cell BKz0.out 0).trans rfl))
   go_ret
   exact ⟨by rfl, by exact HB.out⟩
  rw [if_neg c4] at H
  have c4b0 : decide (a1_0 < a0_0) = false := decide_eq_false c4
  clear c4
  obtain rfl := Option.some.inj H
  go_enter Try.func59, Try.ntmps59
  go_wp2_with (first | ((with_reducible refine gate_dst (N := 2) rfl ?_); refine box_event (by rfl) (N := 2) (by rfl) (cs := #[.int .i64 a0_0, .int .i64 a0_1, .int .i64 a0_2, .slice A0_3 l0_3.length c0_3]) (t := 28) (by go_simp; done) ?_; intro gbz1 hg w40 hbox hb; replace HB := mk (below_step HB.out hb); have BKz0 := mk (hbox); clear hb hbox hg) | ((with_reducible refine gate_dst (N := 3) rfl ?_); refine box_event (by rfl) (N := 3) (by rfl) (cs := #[.int .i64 a1_0, .int .i64 a1_1, .int .i64 a1_2, .int .i64 a1_3]) (t := 41) (by go_simp; done) ?_; intro gbz0 hg w41 hbox hb; replace BKz0 := mk (blk_below BKz0.out hb); replace HB := mk (below_step HB.out hb); have BKz1 := mk (hbox); clear hb hbox hg; have hcz43_0 : w41.cell? ⟨gbz0, 0, none⟩ = some (.int .i64 a1_0) := (blk_cell BKz1.out 0).trans rfl; have hcz44_0 : w41.cell? ⟨gbz1, 0, none⟩ = some (.int .i64 a0_0) := (blk_cell BKz0.out 0).trans rfl))
  go_ret
  exact ⟨by rfl, by exact HB.out⟩
 rw [if_neg c3] at H
 have c3b0 : decide (0 ≤ a1_0) = false := decide_eq_false c3
 clear c3
 obtain rfl := Option.some.inj H
 go_enter Try.func59, Try.ntmps59
 go_wp2_with (first | ((with_reducible refine gate_dst (N := 2) rfl ?_); refine box_event (by rfl) (N := 2) (by rfl) (cs := #[.int .i64 a0_0, .int .i64 a0_1, .int .i64 a0_2, .slice A0_3 l0_3.length c0_3]) (t := 28) (by go_simp; done) ?_; intro gbz1 hg w45 hbox hb; replace HB := mk (below_step HB.out hb); have BKz0 := mk (hbox); clear hb hbox hg) | ((with_reducible refine gate_dst (N := 3) rfl ?_); refine box_event (by rfl) (N := 3) (by rfl) (cs := #[.int .i64 a1_0, .int .i64 a1_1, .int .i64 a1_2, .int .i64 a1_3]) (t := 41) (by go_simp; done) ?_; intro gbz0 hg w46 hbox hb; have n1_ := mk (below_step HB.out hb); have n2_ := mk (hbox); clear BKz0; clear HB; have HB := n1_; have BKz1 := n2_; clear hb hbox hg; have hcz48_0 : w46.cell? ⟨gbz0, 0, none⟩ = some (.int .i64 a1_0) := (blk_cell BKz1.out 0).trans rfl))
 go_ret
 exact ⟨by rfl, by exact HB.out⟩

end Go.Proofs.Ytgccpcnakkioiaa.Q

/- impl.isBoxOn, of a box on a valid image. -/
namespace Go.Proofs.Ytgccpcnakkioiaa.Q
open Go.RowKit Go.Proofs.YtgccpcnakkioiaaW.PrintWords Go.Proofs.YtgccpcnakkioiaaW.PrintLast Go.Proofs.YtgccpcnakkioiaaW.PrintMore
attribute [local go_sem] max2_int min2_int max_two min_two max_three min_three max_four min_four
set_option linter.unusedVariables false
set_option linter.unusedSimpArgs false
open Go.Proofs.Ytgccpcnakkioiaa.Pure

def boxOn (a b x y wd hg : Int) : Bool := decide (0 ≤ x ∧ x < a ∧ 0 ≤ y ∧ y < b ∧ 1 ≤ wd ∧ wd ≤ a - x ∧ 1 ≤ hg ∧ hg ≤ b - y)
theorem boxOn_iff (a b x y wd hg : Int) : boxOn a b x y wd hg = true ↔ 0 ≤ x ∧ x < a ∧ 0 ≤ y ∧ y < b ∧ 1 ≤ wd ∧ wd ≤ a - x ∧ 1 ≤ hg ∧ hg ≤ b - y := by unfold boxOn; exact decide_eq_true_iff
theorem impl_isBoxOn_eq {a b p : Int} {d : List Int} (hv : validI a b p d = true) (x y wd hg : Int) : impl_isBoxOn.f a b p d x y wd hg = some (boxOn a b x y wd hg) := by
  have hs := ((validI_iff a b p d).1 hv).1
  unfold impl_isBoxOn.f boxOn
  by_cases c1 : x ≥ 0
  · rw [if_pos c1]
    by_cases c2 : x < a
    · rw [if_pos c2]
      by_cases c3 : y ≥ 0
      · rw [if_pos c3]
        by_cases c4 : y < b
        · rw [if_pos c4, w64 (x := a - x) (by omega) (by omega), w64 (x := b - y) (by omega) (by omega)]
          by_cases c5 : wd ≥ 1
          · rw [if_pos c5]
            by_cases c6 : wd ≤ a - x
            · rw [if_pos c6]
              by_cases c7 : hg ≥ 1
              · rw [if_pos c7]; congr 1; rw [decide_eq_decide]; omega
              · rw [if_neg c7, decide_eq_false (by omega)]
            · rw [if_neg c6, decide_eq_false (by omega)]
          · rw [if_neg c5, decide_eq_false (by omega)]
        · rw [if_neg c4, decide_eq_false (by omega)]
      · rw [if_neg c3, decide_eq_false (by omega)]
    · rw [if_neg c2, decide_eq_false (by omega)]
  · rw [if_neg c1, decide_eq_false (by omega)]
end Go.Proofs.Ytgccpcnakkioiaa.Q

/- impl.CropImage: a part of an image. -/
namespace Go.Proofs.Ytgccpcnakkioiaa.Q
open Go.RowKit Go.Proofs.YtgccpcnakkioiaaW.PrintWords Go.Proofs.YtgccpcnakkioiaaW.PrintLast Go.Proofs.YtgccpcnakkioiaaW.PrintMore
open Go.Proofs.YtgccpcnakkioiaaW.PrintWords.Aside0 (mk)
attribute [local go_sem] max2_int min2_int max_two min_two max_three min_three max_four min_four
set_option linter.unusedVariables false
set_option linter.unusedSimpArgs false
open Go.Proofs.Ytgccpcnakkioiaa.Pure

def cropPx (a p : Int) (d : List Int) (X Y : Nat) (x y : Nat) : List Int := pxAt a p d (X + x) (Y + y)
def impl_CropImage.f (a b p : Int) (d : List Int) (x y wd hg : Int) : Option (Int × Int × Int × List Int × Bool) := some (if validI a b p d = true ∧ boxOn a b x y wd hg = true then (wd, hg, p, imgD (cropPx a p d x.toNat y.toNat) wd.toNat hg.toNat, true) else (0, 0, 0, [], false))
set_option maxHeartbeats 4000000 in
set_option maxRecDepth 100000 in
theorem crop_no1 (a b p : Int) (A : Option Addr) (c : Nat) (d : List Int) (x y wd hg : Int) (w : World) (hr0_3 : Kd.C (Kd.int .i64) w A d.length d) (hc0_3 : d.length ≤ c) (hv1 : validI a b p d = false) :
  Calls Try.prog 29 #[.agg #[.int .i64 a, .int .i64 b, .int .i64 p, .slice A d.length c], .agg #[.int .i64 x, .int .i64 y, .int .i64 wd, .int .i64 hg]] w fun e w' => ∃ v3_ : Value, e = .returned (.tuple #[.agg #[.int .i64 0, .int .i64 0, .int .i64 0, v3_], .bool false]) ∧ Kd.R (Kd.int .i64) 3 w' w.heap.size (fun _ => True) v3_ [] ∧ Below w.heap.size w w' := by
 have HC := mk hc0_3
 have HR := mk hr0_3
 have HB0 := mk (Below.refl w.heap.size w)
 have E1 := mk (impl_isImage_eq a b p d)
 have HV := mk hv1
 have hu := Try.underlying28
 clear hr0_3 hc0_3
 rw [hv1] at E1
 go_enter Try.func29, Try.ntmps29
 go_wp2_with (first | ((with_reducible refine gate_dst (N := 2) rfl ?_); refine box_event (by rfl) (N := 2) (by rfl) (cs := #[.int .i64 a, .int .i64 b, .int .i64 p, .slice A d.length c]) (t := 28) (by go_simp; done) ?_; intro g1 hg_ w1 hbox hb; have HB1 := mk (below_then HB0.out HB0.out.size hb); have Kg1_1 := mk hbox; clear hbox hb hg_) | ((with_reducible refine gate_dst (N := 3) rfl ?_); refine box_event (by rfl) (N := 3) (by rfl) (cs := #[.int .i64 x, .int .i64 y, .int .i64 wd, .int .i64 hg]) (t := 41) (by go_simp; done) ?_; intro g3 hg_ w2 hbox hb; have HB2 := mk (below_then HB1.out HB1.out.size hb); have Kg1_2 := mk (blk_below Kg1_1.out hb); clear hbox hb hg_) | ((with_reducible refine gate_dst (N := 4) rfl ?_); refine box_event (by rfl) (N := 4) (by rfl) (cs := #[.int .i64 0, .int .i64 0, .int .i64 0, .slice none 0 0]) (t := 28) (by go_simp; done) ?_; intro g2 hg_ w3 hbox hb; have HB3 := mk (below_then HB2.out HB2.out.size hb); have Gg2 := mk (show w.heap.size ≤ g2 from by rw [hg_]; exact HB2.out.size); have Kg1_3 := mk (blk_below Kg1_2.out hb); have Kg2_3 := mk hbox; have fg1_0 : w3.cell? ⟨g1, 0, none⟩ = some (.int .i64 a) := (blk_cell Kg1_3.out 0).trans rfl; have fg1_1 : w3.cell? ⟨g1, 1, none⟩ = some (.int .i64 b) := (blk_cell Kg1_3.out 1).trans rfl; have fg1_2 : w3.cell? ⟨g1, 2, none⟩ = some (.int .i64 p) := (blk_cell Kg1_3.out 2).trans rfl; have fg1_3 : w3.cell? ⟨g1, 3, none⟩ = some (.slice A d.length c) := (blk_cell Kg1_3.out 3).trans rfl; clear hbox hb hg_) | (go_at_call 43; (with_reducible refine (impl_isImage.calls a b p A c d _ w3 (Kd.C_below HR.out HB3.out) HC.out E1.out).mono ?_); rintro e w4 ⟨rfl, hb_⟩; have HB4 := mk (below_then HB3.out HB3.out.size hb_); have Kg2_4 := mk (blk_below Kg2_3.out hb_); have eg2_4_0 : w4.cell? ⟨g2, 0, none⟩ = some (.int .i64 0) := (blk_cell Kg2_4.out 0).trans rfl; have eg2_4_1 : w4.cell? ⟨g2, 1, none⟩ = some (.int .i64 0) := (blk_cell Kg2_4.out 1).trans rfl; have eg2_4_2 : w4.cell? ⟨g2, 2, none⟩ = some (.int .i64 0) := (blk_cell Kg2_4.out 2).trans rfl; have eg2_4_3 : w4.cell? ⟨g2, 3, none⟩ = some (.slice none 0 0) := (blk_cell Kg2_4.out 3).trans rfl; have yg2_4_0 := blk_frozen Kg2_4.out 0; have yg2_4_1 := blk_frozen Kg2_4.out 1; have yg2_4_2 := blk_frozen Kg2_4.out 2; have yg2_4_3 := blk_frozen Kg2_4.out 3; clear hb_))
 refine bodyPost_ret (results_ct rfl _ _ g2 28 #[.int .i64 0, .int .i64 0, .int .i64 0, .slice none 0 0] (0, 0) _ rfl (by
  refine blk_put (cs := #[.int .i64 0, .int .i64 0, .int .i64 0, .slice none 0 0]) ?_ 3 _ rfl
  refine blk_put (cs := #[.int .i64 0, .int .i64 0, .int .i64 0, .slice none 0 0]) ?_ 2 _ rfl
  refine blk_put (cs := #[.int .i64 0, .int .i64 0, .int .i64 0, .slice none 0 0]) ?_ 1 _ rfl
  refine blk_put (cs := #[.int .i64 0, .int .i64 0, .int .i64 0, .slice none 0 0]) ?_ 0 _ rfl
  exact Kg2_4.out
  ) hu rfl (by kernel_rfl)) rfl ?_
 have G2 := Gg2.out
 exact ⟨_, rfl, Kd.R_nil _ _ _ _ _, below_set (below_set (below_set (below_set HB4.out (by omega)) (by omega)) (by omega)) (by omega)⟩
set_option maxHeartbeats 4000000 in
set_option maxRecDepth 100000 in
theorem crop_no2 (a b p : Int) (A : Option Addr) (c : Nat) (d : List Int) (x y wd hg : Int) (w : World) (hr0_3 : Kd.C (Kd.int .i64) w A d.length d) (hc0_3 : d.length ≤ c) (hv1 : validI a b p d = true) (hv2 : boxOn a b x y wd hg = false) :
  Calls Try.prog 29 #[.agg #[.int .i64 a, .int .i64 b, .int .i64 p, .slice A d.length c], .agg #[.int .i64 x, .int .i64 y, .int .i64 wd, .int .i64 hg]] w fun e w' => ∃ v3_ : Value, e = .returned (.tuple #[.agg #[.int .i64 0, .int .i64 0, .int .i64 0, v3_], .bool false]) ∧ Kd.R (Kd.int .i64) 3 w' w.heap.size (fun _ => True) v3_ [] ∧ Below w.heap.size w w' := by
 have HC := mk hc0_3
 have HR := mk hr0_3
 have HB0 := mk (Below.refl w.heap.size w)
 have E1 := mk (impl_isImage_eq a b p d)
 have HV := mk hv1
 have hu := Try.underlying28
 clear hr0_3 hc0_3
 rw [hv1] at E1
 have E2 := mk (impl_isBoxOn_eq hv1 x y wd hg)
 rw [hv2] at E2
 clear hv1 hv2
 go_enter Try.func29, Try.ntmps29
 go_wp2_with (first | ((with_reducible refine gate_dst (N := 2) rfl ?_); refine box_event (by rfl) (N := 2) (by rfl) (cs := #[.int .i64 a, .int .i64 b, .int .i64 p, .slice A d.length c]) (t := 28) (by go_simp; done) ?_; intro g1 hg_ w1 hbox hb; have HB1 := mk (below_then HB0.out HB0.out.size hb); have Kg1_1 := mk hbox; clear hbox hb hg_) | ((with_reducible refine gate_dst (N := 3) rfl ?_); refine box_event (by rfl) (N := 3) (by rfl) (cs := #[.int .i64 x, .int .i64 y, .int .i64 wd, .int .i64 hg]) (t := 41) (by go_simp; done) ?_; intro g3 hg_ w2 hbox hb; have HB2 := mk (below_then HB1.out HB1.out.size hb); have Kg1_2 := mk (blk_below Kg1_1.out hb); have Kg3_2 := mk hbox; clear hbox hb hg_) | ((with_reducible refine gate_dst (N := 4) rfl ?_); refine box_event (by rfl) (N := 4) (by rfl) (cs := #[.int .i64 0, .int .i64 0, .int .i64 0, .slice none 0 0]) (t := 28) (by go_simp; done) ?_; intro g2 hg_ w3 hbox hb; have HB3 := mk (below_then HB2.out HB2.out.size hb); have Gg2 := mk (show w.heap.size ≤ g2 from by rw [hg_]; exact HB2.out.size); have Kg1_3 := mk (blk_below Kg1_2.out hb); have Kg3_3 := mk (blk_below Kg3_2.out hb); have Kg2_3 := mk hbox; have fg1_0 : w3.cell? ⟨g1, 0, none⟩ = some (.int .i64 a) := (blk_cell Kg1_3.out 0).trans rfl; have fg1_1 : w3.cell? ⟨g1, 1, none⟩ = some (.int .i64 b) := (blk_cell Kg1_3.out 1).trans rfl; have fg1_2 : w3.cell? ⟨g1, 2, none⟩ = some (.int .i64 p) := (blk_cell Kg1_3.out 2).trans rfl; have fg1_3 : w3.cell? ⟨g1, 3, none⟩ = some (.slice A d.length c) := (blk_cell Kg1_3.out 3).trans rfl; clear hbox hb hg_) | (go_at_call 43; (with_reducible refine (impl_isImage.calls a b p A c d _ w3 (Kd.C_below HR.out HB3.out) HC.out E1.out).mono ?_); rintro e w4 ⟨rfl, hb_⟩; have HB4 := mk (below_then HB3.out HB3.out.size hb_); have Kg1_4 := mk (blk_below Kg1_3.out hb_); have eg1_4_0 : w4.cell? ⟨g1, 0, none⟩ = some (.int .i64 a) := (blk_cell Kg1_4.out 0).trans rfl; have eg1_4_1 : w4.cell? ⟨g1, 1, none⟩ = some (.int .i64 b) := (blk_cell Kg1_4.out 1).trans rfl; have eg1_4_2 : w4.cell? ⟨g1, 2, none⟩ = some (.int .i64 p) := (blk_cell Kg1_4.out 2).trans rfl; have eg1_4_3 : w4.cell? ⟨g1, 3, none⟩ = some (.slice A d.length c) := (blk_cell Kg1_4.out 3).trans rfl; have Kg3_4 := mk (blk_below Kg3_3.out hb_); have eg3_4_0 : w4.cell? ⟨g3, 0, none⟩ = some (.int .i64 x) := (blk_cell Kg3_4.out 0).trans rfl; have eg3_4_1 : w4.cell? ⟨g3, 1, none⟩ = some (.int .i64 y) := (blk_cell Kg3_4.out 1).trans rfl; have eg3_4_2 : w4.cell? ⟨g3, 2, none⟩ = some (.int .i64 wd) := (blk_cell Kg3_4.out 2).trans rfl; have eg3_4_3 : w4.cell? ⟨g3, 3, none⟩ = some (.int .i64 hg) := (blk_cell Kg3_4.out 3).trans rfl; have Kg2_4 := mk (blk_below Kg2_3.out hb_); clear hb_) | (go_at_call 59; (with_reducible refine (impl_isBoxOn.calls a b p A c d x y wd hg _ w4 (Kd.C_below HR.out HB4.out) HC.out E2.out).mono ?_); rintro e w5 ⟨rfl, hb_⟩; have HB5 := mk (below_then HB4.out HB4.out.size hb_); have Kg2_5 := mk (blk_below Kg2_4.out hb_); have eg2_5_0 : w5.cell? ⟨g2, 0, none⟩ = some (.int .i64 0) := (blk_cell Kg2_5.out 0).trans rfl; have eg2_5_1 : w5.cell? ⟨g2, 1, none⟩ = some (.int .i64 0) := (blk_cell Kg2_5.out 1).trans rfl; have eg2_5_2 : w5.cell? ⟨g2, 2, none⟩ = some (.int .i64 0) := (blk_cell Kg2_5.out 2).trans rfl; have eg2_5_3 : w5.cell? ⟨g2, 3, none⟩ = some (.slice none 0 0) := (blk_cell Kg2_5.out 3).trans rfl; have yg2_5_0 := blk_frozen Kg2_5.out 0; have yg2_5_1 := blk_frozen Kg2_5.out 1; have yg2_5_2 := blk_frozen Kg2_5.out 2; have yg2_5_3 := blk_frozen Kg2_5.out 3; clear hb_))
 refine bodyPost_ret (results_ct rfl _ _ g2 28 #[.int .i64 0, .int .i64 0, .int .i64 0, .slice none 0 0] (0, 0) _ rfl (by
  refine blk_put (cs := #[.int .i64 0, .int .i64 0, .int .i64 0, .slice none 0 0]) ?_ 3 _ rfl
  refine blk_put (cs := #[.int .i64 0, .int .i64 0, .int .i64 0, .slice none 0 0]) ?_ 2 _ rfl
  refine blk_put (cs := #[.int .i64 0, .int .i64 0, .int .i64 0, .slice none 0 0]) ?_ 1 _ rfl
  refine blk_put (cs := #[.int .i64 0, .int .i64 0, .int .i64 0, .slice none 0 0]) ?_ 0 _ rfl
  exact Kg2_5.out
  ) hu rfl (by kernel_rfl)) rfl ?_
 have G2 := Gg2.out
 exact ⟨_, rfl, Kd.R_nil _ _ _ _ _, below_set (below_set (below_set (below_set HB5.out (by omega)) (by omega)) (by omega)) (by omega)⟩
set_option maxHeartbeats 4000000 in
set_option maxRecDepth 100000 in
theorem crop_yes (a b p : Int) (A : Option Addr) (c : Nat) (d : List Int) (x y wd hg : Nat) (w : World) (hr0_3 : Kd.C (Kd.int .i64) w A d.length d) (hc0_3 : d.length ≤ c) (hv1 : validI a b p d = true) (hv2 : boxOn a b x y wd hg = true) :
  Calls Try.prog 29 #[.agg #[.int .i64 a, .int .i64 b, .int .i64 p, .slice A d.length c], .agg #[.int .i64 (x : Int), .int .i64 (y : Int), .int .i64 (wd : Int), .int .i64 (hg : Int)]] w fun e w' => ∃ v3_ : Value, e = .returned (.tuple #[.agg #[.int .i64 (wd : Int), .int .i64 (hg : Int), .int .i64 p, v3_], .bool true]) ∧ Kd.R (Kd.int .i64) 3 w' w.heap.size (fun _ => True) v3_ (imgD (cropPx a p d x y) wd hg) ∧ Below w.heap.size w w' := by
 have HC := mk hc0_3
 have HR := mk hr0_3
 have HB0 := mk (Below.refl w.heap.size w)
 have E1 := mk (impl_isImage_eq a b p d)
 have HV := mk hv1
 have hu := Try.underlying28
 clear hr0_3 hc0_3
 rw [hv1] at E1
 have E2 := mk (impl_isBoxOn_eq hv1 x y wd hg)
 rw [hv2] at E2
 have hs := ((validI_iff a b p d).1 hv1).1
 have hbx := (boxOn_iff a b x y wd hg).1 hv2
 have HPL := mk (show ∀ x' y', x' < wd → y' < hg → (cropPx a p d x y x' y').length ≤ 4 from fun x' y' hx hy => pxAt_le hv1 (by omega) (by omega))
 clear hv1 hv2
 go_enter Try.func29, Try.ntmps29
 go_wp2_with (first | ((with_reducible refine gate_dst (N := 2) rfl ?_); refine box_event (by rfl) (N := 2) (by rfl) (cs := #[.int .i64 a, .int .i64 b, .int .i64 p, .slice A d.length c]) (t := 28) (by go_simp; done) ?_; intro g1 hg_ w1 hbox hb; have HB1 := mk (below_then HB0.out HB0.out.size hb); have Kg1_1 := mk hbox; clear hbox hb hg_) | ((with_reducible refine gate_dst (N := 3) rfl ?_); refine box_event (by rfl) (N := 3) (by rfl) (cs := #[.int .i64 (x : Int), .int .i64 (y : Int), .int .i64 (wd : Int), .int .i64 (hg : Int)]) (t := 41) (by go_simp; done) ?_; intro g3 hg_ w2 hbox hb; have HB2 := mk (below_then HB1.out HB1.out.size hb); have Kg1_2 := mk (blk_below Kg1_1.out hb); have Kg3_2 := mk hbox; clear hbox hb hg_) | ((with_reducible refine gate_dst (N := 4) rfl ?_); refine box_event (by rfl) (N := 4) (by rfl) (cs := #[.int .i64 0, .int .i64 0, .int .i64 0, .slice none 0 0]) (t := 28) (by go_simp; done) ?_; intro g2 hg_ w3 hbox hb; have HB3 := mk (below_then HB2.out HB2.out.size hb); have Gg2 := mk (show w.heap.size ≤ g2 from by rw [hg_]; exact HB2.out.size); have Kg1_3 := mk (blk_below Kg1_2.out hb); have Kg3_3 := mk (blk_below Kg3_2.out hb); have Kg2_3 := mk hbox; have fg1_0 : w3.cell? ⟨g1, 0, none⟩ = some (.int .i64 a) := (blk_cell Kg1_3.out 0).trans rfl; have fg1_1 : w3.cell? ⟨g1, 1, none⟩ = some (.int .i64 b) := (blk_cell Kg1_3.out 1).trans rfl; have fg1_2 : w3.cell? ⟨g1, 2, none⟩ = some (.int .i64 p) := (blk_cell Kg1_3.out 2).trans rfl; have fg1_3 : w3.cell? ⟨g1, 3, none⟩ = some (.slice A d.length c) := (blk_cell Kg1_3.out 3).trans rfl; clear hbox hb hg_) | (go_at_call 43; (with_reducible refine (impl_isImage.calls a b p A c d _ w3 (Kd.C_below HR.out HB3.out) HC.out E1.out).mono ?_); rintro e w4 ⟨rfl, hb_⟩; have HB4 := mk (below_then HB3.out HB3.out.size hb_); have Kg1_4 := mk (blk_below Kg1_3.out hb_); have eg1_4_0 : w4.cell? ⟨g1, 0, none⟩ = some (.int .i64 a) := (blk_cell Kg1_4.out 0).trans rfl; have eg1_4_1 : w4.cell? ⟨g1, 1, none⟩ = some (.int .i64 b) := (blk_cell Kg1_4.out 1).trans rfl; have eg1_4_2 : w4.cell? ⟨g1, 2, none⟩ = some (.int .i64 p) := (blk_cell Kg1_4.out 2).trans rfl; have eg1_4_3 : w4.cell? ⟨g1, 3, none⟩ = some (.slice A d.length c) := (blk_cell Kg1_4.out 3).trans rfl; have Kg3_4 := mk (blk_below Kg3_3.out hb_); have eg3_4_0 : w4.cell? ⟨g3, 0, none⟩ = some (.int .i64 (x : Int)) := (blk_cell Kg3_4.out 0).trans rfl; have eg3_4_1 : w4.cell? ⟨g3, 1, none⟩ = some (.int .i64 (y : Int)) := (blk_cell Kg3_4.out 1).trans rfl; have eg3_4_2 : w4.cell? ⟨g3, 2, none⟩ = some (.int .i64 (wd : Int)) := (blk_cell Kg3_4.out 2).trans rfl; have eg3_4_3 : w4.cell? ⟨g3, 3, none⟩ = some (.int .i64 (hg : Int)) := (blk_cell Kg3_4.out 3).trans rfl; have Kg2_4 := mk (blk_below Kg2_3.out hb_); clear hb_) | (go_at_call 59; (with_reducible refine (impl_isBoxOn.calls a b p A c d x y wd hg _ w4 (Kd.C_below HR.out HB4.out) HC.out E2.out).mono ?_); rintro e w5 ⟨rfl, hb_⟩; have HB5 := mk (below_then HB4.out HB4.out.size hb_); have Kg1_5 := mk (blk_below Kg1_4.out hb_); have eg1_5_2 : w5.cell? ⟨g1, 2, none⟩ = some (.int .i64 p) := (blk_cell Kg1_5.out 2).trans rfl; have Kg3_5 := mk (blk_below Kg3_4.out hb_); have eg3_5_2 : w5.cell? ⟨g3, 2, none⟩ = some (.int .i64 (wd : Int)) := (blk_cell Kg3_5.out 2).trans rfl; have eg3_5_3 : w5.cell? ⟨g3, 3, none⟩ = some (.int .i64 (hg : Int)) := (blk_cell Kg3_5.out 3).trans rfl; have Kg2_5 := mk (blk_below Kg2_4.out hb_); clear hb_) | (go_at_call 53; refine (imageBy_calls 60 #[.pointer (some ⟨g1, 0, none⟩), .pointer (some ⟨g3, 0, none⟩)] (cropPx a p d x y) wd hg p (by omega) (by omega) w5 (enters_of Try.func60 (by kernel_rfl) rfl) HPL.out (fun W x' y' hx hy hW => crop1_calls a b p A c d HV.out HC.out x y wd hg x' y' (by omega) (by omega) g1 W (blk_below Kg1_5.out hW) g3 (blk_below Kg3_5.out hW) (Kd.C_below (Kd.C_below HR.out HB5.out) hW))).mono ?_; rintro e w6 ⟨v6, rfl, hr6, hb_⟩; have HB6 := mk (below_then HB5.out HB5.out.size hb_); have Kg2_6 := mk (blk_below Kg2_5.out hb_); have eg2_6_0 : w6.cell? ⟨g2, 0, none⟩ = some (.int .i64 0) := (blk_cell Kg2_6.out 0).trans rfl; have eg2_6_1 : w6.cell? ⟨g2, 1, none⟩ = some (.int .i64 0) := (blk_cell Kg2_6.out 1).trans rfl; have eg2_6_2 : w6.cell? ⟨g2, 2, none⟩ = some (.int .i64 0) := (blk_cell Kg2_6.out 2).trans rfl; have eg2_6_3 : w6.cell? ⟨g2, 3, none⟩ = some (.slice none 0 0) := (blk_cell Kg2_6.out 3).trans rfl; have yg2_6_0 := blk_frozen Kg2_6.out 0; have yg2_6_1 := blk_frozen Kg2_6.out 1; have yg2_6_2 := blk_frozen Kg2_6.out 2; have yg2_6_3 := blk_frozen Kg2_6.out 3; have HR6 := mk (Kd.R_lower hr6 HB5.out.size); obtain ⟨A6, c6, ev6⟩ := Kd.R_slice HR6.out; subst ev6; clear hr6 hb_))
 have G2 := Gg2.out
 have RR := Kd.R_types HR6.out Kg2_6.out (by decide)
 refine bodyPost_ret (results_ct rfl _ _ g2 28 #[.int .i64 (wd : Int), .int .i64 (hg : Int), .int .i64 p, .slice A6 (imgD (cropPx a p d x y) wd hg).length c6] (0, 0) _ rfl (by
  refine blk_put (cs := #[.int .i64 (wd : Int), .int .i64 (hg : Int), .int .i64 p, .slice none 0 0]) ?_ 3 _ rfl
  refine blk_put (cs := #[.int .i64 (wd : Int), .int .i64 (hg : Int), .int .i64 0, .slice none 0 0]) ?_ 2 _ rfl
  refine blk_put (cs := #[.int .i64 (wd : Int), .int .i64 0, .int .i64 0, .slice none 0 0]) ?_ 1 _ rfl
  refine blk_put (cs := #[.int .i64 0, .int .i64 0, .int .i64 0, .slice none 0 0]) ?_ 0 _ rfl
  exact Kg2_6.out
  ) hu rfl (by kernel_rfl)) rfl ?_
 exact ⟨_, rfl, Kd.R_mono (Kd.R_far (Kd.R_far (Kd.R_far (Kd.R_far RR (fun k hk => hk.2) _) (fun k hk => hk.2) _) (fun k hk => hk.2) _) (fun k hk => hk.2) _) (fun _ _ => trivial), below_set (below_set (below_set (below_set HB6.out (by omega)) (by omega)) (by omega)) (by omega)⟩
theorem impl_CropImage.calls (a b p : Int) (A : Option Addr) (c : Nat) (d : List Int) (x y wd hg : Int) (r1 r2 r3 : Int) (r4 : List Int) (r5 : Bool) (w : World) (hr0_3 : Kd.C (Kd.int .i64) w A d.length d) (hc0_3 : d.length ≤ c) (h : impl_CropImage.f a b p d x y wd hg = some (r1, r2, r3, r4, r5)) :
  Calls Try.prog 29 #[.agg #[.int .i64 a, .int .i64 b, .int .i64 p, .slice A d.length c], .agg #[.int .i64 x, .int .i64 y, .int .i64 wd, .int .i64 hg]] w fun e w' => ∃ v3_ : Value, e = .returned (.tuple #[.agg #[.int .i64 r1, .int .i64 r2, .int .i64 r3, v3_], .bool r5]) ∧ Kd.R (Kd.int .i64) 3 w' w.heap.size (fun _ => True) v3_ r4 ∧ Below w.heap.size w w' := by
 have hv := Option.some.inj h
 cases hv1 : validI a b p d with
 | false =>
  rw [hv1, if_neg (by simp)] at hv
  obtain ⟨rfl, rfl, rfl, rfl, rfl⟩ : 0 = r1 ∧ 0 = r2 ∧ 0 = r3 ∧ [] = r4 ∧ false = r5 := by simpa using hv
  exact crop_no1 a b p A c d x y wd hg w hr0_3 hc0_3 hv1
 | true =>
  cases hv2 : boxOn a b x y wd hg with
  | false =>
   rw [hv1, hv2, if_neg (by simp)] at hv
   obtain ⟨rfl, rfl, rfl, rfl, rfl⟩ : 0 = r1 ∧ 0 = r2 ∧ 0 = r3 ∧ [] = r4 ∧ false = r5 := by simpa using hv
   exact crop_no2 a b p A c d x y wd hg w hr0_3 hc0_3 hv1 hv2
  | true =>
   have hbx := (boxOn_iff a b x y wd hg).1 hv2
   rw [hv1, hv2, if_pos ⟨rfl, rfl⟩] at hv
   obtain ⟨xn, rfl⟩ := Int.eq_ofNat_of_zero_le (show 0 ≤ x by omega)
   obtain ⟨yn, rfl⟩ := Int.eq_ofNat_of_zero_le (show 0 ≤ y by omega)
   obtain ⟨wn, rfl⟩ := Int.eq_ofNat_of_zero_le (show 0 ≤ wd by omega)
   obtain ⟨hn, rfl⟩ := Int.eq_ofNat_of_zero_le (show 0 ≤ hg by omega)
   obtain ⟨rfl, rfl, rfl, rfl, rfl⟩ : (wn : Int) = r1 ∧ (hn : Int) = r2 ∧ p = r3 ∧ imgD (cropPx a p d xn yn) wn hn = r4 ∧ true = r5 := by simpa using hv
   exact crop_yes a b p A c d xn yn wn hn w hr0_3 hc0_3 hv1 hv2
end Go.Proofs.Ytgccpcnakkioiaa.Q

namespace Go.Proofs.Ytgccpcnakkioiaa.Q
open Go.RowKit Go.Proofs.YtgccpcnakkioiaaW.PrintWords Go.Proofs.YtgccpcnakkioiaaW.PrintLast Go.Proofs.YtgccpcnakkioiaaW.PrintMore
attribute [local go_sem] max2_int min2_int max_two min_two max_three min_three max_four min_four
set_option linter.unusedVariables false
set_option linter.unusedSimpArgs false
def impl_Box_has.f (a0_0 : Int) (a0_1 : Int) (a0_2 : Int) (a0_3 : Int) (a1 : Int) (a2 : Int) : Option (Bool) := if a1 ≥ a0_0 then (if a1 < (wrap64 (a0_0 + a0_2)) then (if a2 ≥ a0_1 then (some (decide (a2 < (wrap64 (a0_1 + a0_3))))) else (some false)) else (some false)) else (some false)
set_option maxHeartbeats 8000000 in
set_option maxRecDepth 100000 in
theorem impl_Box_has.calls (a0_0 : Int) (a0_1 : Int) (a0_2 : Int) (a0_3 : Int) (a1 : Int) (a2 : Int) (r : Bool) (w : World) (h : impl_Box_has.f a0_0 a0_1 a0_2 a0_3 a1 a2 = some r) :
  Calls Try.prog 81 #[.agg #[.int .i64 a0_0, .int .i64 a0_1, .int .i64 a0_2, .int .i64 a0_3], .int .i64 a1, .int .i64 a2] w fun e w' => e = .returned (.bool r) ∧ Below w.heap.size w w' := by
 have hu41 := Try.underlying41
 have HB := Aside0.mk (Below.refl w.heap.size w)
 have H : (if a1 ≥ a0_0 then (if a1 < (wrap64 (a0_0 + a0_2)) then (if a2 ≥ a0_1 then (some (decide (a2 < (wrap64 (a0_1 + a0_3))))) else (some false)) else (some false)) else (some false)) = some r := h
 clear h
 by_cases c4 : a1 ≥ a0_0
 ·rw [if_pos c4] at H
  have c4b0 : decide (a0_0 ≤ a1) = true := decide_eq_true c4
  clear c4
  by_cases c5 : a1 < (wrap64 (a0_0 + a0_2))
  ·rw [if_pos c5] at H
   have c5b0 : decide (a1 < (wrap64 (a0_0 + a0_2))) = true := decide_eq_true c5
   clear c5
   by_cases c6 : a2 ≥ a0_1
   ·rw [if_pos c6] at H
    have c6b0 : decide (a0_1 ≤ a2) = true := decide_eq_true c6
    clear c6
    obtain rfl := Option.some.inj H
    go_enter Try.func81, Try.ntmps81
    go_wp2_with (first | ((with_reducible refine gate_dst (N := 3) rfl ?_); refine box_event ?hg (N := 3) ?hd (cs := #[.int .i64 a0_0, .int .i64 a0_1, .int .i64 a0_2, .int .i64 a0_3]) (t := 41) ?hr ?_; (case hd => rfl); (case hg => rfl); (case hr => first | (go_simp; done) | (go_simp; rfl)); intro gbz0 hg w7 hbox hb; replace HB := Aside0.mk (below_step (by repeat (first | (with_reducible first | exact HB.out | apply below_alloc | apply pw_below_drewN | apply below_drew1) | exact HB.out)) hb); have BKz0 := Aside0.mk (hbox); clear hb hbox hg; obtain ⟨hcz8_0, hcz8_1, hcz8_2, hcz8_3, -⟩ := c4 BKz0.out))
    go_ret
    exact ⟨by first | rfl | (simp [errW_none, errW_some] <;> rfl) | (simp [*, errW_none, errW_some] <;> rfl), by repeat (first | (with_reducible first | exact HB.out | apply below_alloc | apply pw_below_drewN | apply below_drew1 | refine below_set ?_ GEz0.out) | exact HB.out)⟩
   rw [if_neg c6] at H
   have c6b0 : decide (a0_1 ≤ a2) = false := decide_eq_false c6
   clear c6
   obtain rfl := Option.some.inj H
   go_enter Try.func81, Try.ntmps81
   go_wp2_with (first | ((with_reducible refine gate_dst (N := 3) rfl ?_); refine box_event ?hg (N := 3) ?hd (cs := #[.int .i64 a0_0, .int .i64 a0_1, .int .i64 a0_2, .int .i64 a0_3]) (t := 41) ?hr ?_; (case hd => rfl); (case hg => rfl); (case hr => first | (go_simp; done) | (go_simp; rfl)); intro gbz0 hg w9 hbox hb; replace HB := Aside0.mk (below_step (by repeat (first | (with_reducible first | exact HB.out | apply below_alloc | apply pw_below_drewN | apply below_drew1) | exact HB.out)) hb); have BKz0 := Aside0.mk (hbox); clear hb hbox hg; obtain ⟨hcz10_0, hcz10_1, hcz10_2, -⟩ := c4 BKz0.out))
   go_ret
   exact ⟨by first | rfl | (simp [errW_none, errW_some] <;> rfl) | (simp [*, errW_none, errW_some] <;> rfl), by repeat (first | (with_reducible first | exact HB.out | apply below_alloc | apply pw_below_drewN | apply below_drew1 | refine below_set ?_ GEz0.out) | exact HB.out)⟩
  rw [if_neg c5] at H
  have c5b0 : decide (a1 < (wrap64 (a0_0 + a0_2))) = false := decide_eq_false c5
  clear c5
  obtain rfl := Option.some.inj H
  go_enter Try.func81, Try.ntmps81
  go_wp2_with (first | ((with_reducible refine gate_dst (N := 3) rfl ?_); refine box_event ?hg (N := 3) ?hd (cs := #[.int .i64 a0_0, .int .i64 a0_1, .int .i64 a0_2, .int .i64 a0_3]) (t := 41) ?hr ?_; (case hd => rfl); (case hg => rfl); (case hr => first | (go_simp; done) | (go_simp; rfl)); intro gbz0 hg w11 hbox hb; replace HB := Aside0.mk (below_step (by repeat (first | (with_reducible first | exact HB.out | apply below_alloc | apply pw_below_drewN | apply below_drew1) | exact HB.out)) hb); have BKz0 := Aside0.mk (hbox); clear hb hbox hg; obtain ⟨hcz12_0, -, hcz12_2, -⟩ := c4 BKz0.out))
  go_ret
  exact ⟨by first | rfl | (simp [errW_none, errW_some] <;> rfl) | (simp [*, errW_none, errW_some] <;> rfl), by repeat (first | (with_reducible first | exact HB.out | apply below_alloc | apply pw_below_drewN | apply below_drew1 | refine below_set ?_ GEz0.out) | exact HB.out)⟩
 rw [if_neg c4] at H
 have c4b0 : decide (a0_0 ≤ a1) = false := decide_eq_false c4
 clear c4
 obtain rfl := Option.some.inj H
 go_enter Try.func81, Try.ntmps81
 go_wp2_with (first | ((with_reducible refine gate_dst (N := 3) rfl ?_); refine box_event ?hg (N := 3) ?hd (cs := #[.int .i64 a0_0, .int .i64 a0_1, .int .i64 a0_2, .int .i64 a0_3]) (t := 41) ?hr ?_; (case hd => rfl); (case hg => rfl); (case hr => first | (go_simp; done) | (go_simp; rfl)); intro gbz0 hg w13 hbox hb; replace HB := Aside0.mk (below_step (by repeat (first | (with_reducible first | exact HB.out | apply below_alloc | apply pw_below_drewN | apply below_drew1) | exact HB.out)) hb); have BKz0 := Aside0.mk (hbox); clear hb hbox hg; have hcz14_0 : w13.cell? ⟨gbz0, 0, none⟩ = some (.int .i64 a0_0) := (blk_cell BKz0.out 0).trans rfl))
 go_ret
 exact ⟨by first | rfl | (simp [errW_none, errW_some] <;> rfl) | (simp [*, errW_none, errW_some] <;> rfl), by repeat (first | (with_reducible first | exact HB.out | apply below_alloc | apply pw_below_drewN | apply below_drew1 | refine below_set ?_ GEz0.out) | exact HB.out)⟩

end Go.Proofs.Ytgccpcnakkioiaa.Q

/- impl.doStep's function value: a box's pixels are one pixel's numbers. -/
namespace Go.Proofs.Ytgccpcnakkioiaa.Q
open Go.RowKit Go.Proofs.YtgccpcnakkioiaaW.PrintWords Go.Proofs.YtgccpcnakkioiaaW.PrintLast Go.Proofs.YtgccpcnakkioiaaW.PrintMore
attribute [local go_sem] max2_int min2_int max_two min_two max_three min_three max_four min_four
set_option linter.unusedVariables false
set_option linter.unusedSimpArgs false
open Go.Proofs.Ytgccpcnakkioiaa.Pure

def inBox (x y wd hg : Nat) (i j : Nat) : Bool := decide (x ≤ i ∧ i < x + wd ∧ y ≤ j ∧ j < y + hg)
theorem impl_Box_has_nat (x y wd hg i j : Nat) (h1 : x ≤ 1000) (h2 : y ≤ 1000) (h3 : wd ≤ 1000) (h4 : hg ≤ 1000) : impl_Box_has.f (x : Int) (y : Int) (wd : Int) (hg : Int) (i : Int) (j : Int) = some (inBox x y wd hg i j) := by
 unfold impl_Box_has.f inBox
 rw [w64 (x := (x : Int) + wd) (by omega) (by omega), w64 (x := (y : Int) + hg) (by omega) (by omega)]
 by_cases c1 : (i : Int) ≥ x
 ·rw [if_pos c1]
  by_cases c2 : (i : Int) < (x : Int) + wd
  ·rw [if_pos c2]
   by_cases c3 : (j : Int) ≥ y
   ·rw [if_pos c3]; congr 1; rw [decide_eq_decide]; omega
   ·rw [if_neg c3, decide_eq_false (by omega)]
  ·rw [if_neg c2, decide_eq_false (by omega)]
 ·rw [if_neg c1, decide_eq_false (by omega)]
def fillPx (a p : Int) (d : List Int) (x y wd hg : Nat) (pix : List Int) (i j : Nat) : List Int := if inBox x y wd hg i j = true then pix else pxAt a p d i j
set_option maxHeartbeats 1600000 in
set_option maxRecDepth 100000 in
theorem fill1_calls (a b p : Int) (A : Option Addr) (c : Nat) (d : List Int) (hv : validI a b p d = true) (hc : d.length ≤ c) (kind : Int) (x y wd hg : Nat) (hx4 : x ≤ 16) (hy4 : y ≤ 16) (hw4 : wd ≤ 16) (hh4 : hg ≤ 16) (A3 : Option Addr) (c3 : Nat) (pix : List Int) (hc3 : pix.length ≤ c3) (i j : Nat) (hi : (i : Int) < a) (hj : (j : Int) < b) (B2 : Nat) (w : World) (h2 : w.heap[B2]? = some (.cells #[.int .i64 kind, .int .i64 (x : Int), .int .i64 (y : Int), .int .i64 (wd : Int), .int .i64 (hg : Int), .slice A3 pix.length c3] 43 (0, 0))) (B : Nat) (h1 : w.heap[B]? = some (.cells #[.int .i64 a, .int .i64 b, .int .i64 p, .slice A d.length c] 28 (0, 0))) (hr : Kd.C (Kd.int .i64) w A d.length d) (hr3 : Kd.C (Kd.int .i64) w A3 pix.length pix) :
  Calls Try.prog 80 (#[.int .i64 (i : Int), .int .i64 (j : Int)] ++ #[.pointer (some ⟨B2, 0, none⟩), .pointer (some ⟨B, 0, none⟩)]) w fun e w' => ∃ (A' : Option Addr) (c' : Nat), e = .returned (.slice A' (fillPx a p d x y wd hg pix i j).length c') ∧ Kd.C (Kd.int .i64) w' A' (fillPx a p d x y wd hg pix i j).length (fillPx a p d x y wd hg pix i j) ∧ (fillPx a p d x y wd hg pix i j).length ≤ c' ∧ Below w.heap.size w w' := by
 have H1 := Aside0.mk h1
 have H2 := Aside0.mk h2
 have HR3 := Aside0.mk hr3
 have HH := Aside0.mk (impl_Box_has_nat x y wd hg i j (by omega) (by omega) (by omega) (by omega))
 have q1 := (blk_cell h2 1).trans rfl; have q2 := (blk_cell h2 2).trans rfl; have q3 := (blk_cell h2 3).trans rfl; have q4 := (blk_cell h2 4).trans rfl
 obtain ⟨A', c', hc', HA⟩ := at_px (x := i) (y := j) A c hv hc hi hj
 have HR := Aside0.mk hr
 unfold fillPx
 cases hin : inBox x y wd hg i j with
 | true =>
  rw [hin] at HH
  simp only [if_true]
  clear HA hr hr3 h1 h2 hv hc hin
  simp only [List.append_toArray, List.cons_append, List.nil_append]
  go_enter Try.func80, Try.ntmps80
  go_wp2_with (first | (go_at_call 81; (with_reducible refine (impl_Box_has.calls (x : Int) (y : Int) (wd : Int) (hg : Int) (i : Int) (j : Int) _ _ HH.out).mono ?_); rintro e w2 ⟨rfl, hb⟩; have k5 := (blk_cell (blk_below H2.out hb) 5).trans rfl))
  go_ret
  exact ⟨A3, c3, rfl, Kd.C_below HR3.out hb, hc3, hb⟩
 | false =>
  rw [hin] at HH
  simp only [Bool.false_eq_true, if_false]
  generalize pxAt a p d i j = px at *
  replace HA := Aside0.mk HA
  clear hr hr3 h1 h2 hv hc hin
  simp only [List.append_toArray, List.cons_append, List.nil_append]
  go_enter Try.func80, Try.ntmps80
  go_wp2_with (first
   | (go_at_call 81; (with_reducible refine (impl_Box_has.calls (x : Int) (y : Int) (wd : Int) (hg : Int) (i : Int) (j : Int) _ _ HH.out).mono ?_); rintro e w2 ⟨rfl, hb⟩; have H12 := blk_below H1.out hb; have HRw := Aside0.mk (Kd.C_below HR.out hb); have k0 := (blk_cell H12 0).trans rfl; have k1 := (blk_cell H12 1).trans rfl; have k2 := (blk_cell H12 2).trans rfl; have k3 := (blk_cell H12 3).trans rfl; have hb2 := Aside0.mk hb; clear hb H12)
   | (go_at_call 55; (with_reducible refine ((HA.out _ HRw.out).2).mono ?_); rintro e w3 ⟨rfl, hb3⟩))
  go_ret
  exact ⟨A', c', rfl, Kd.C_below (HA.out _ HRw.out).1 hb3, hc', below_then hb2.out hb2.out.size hb3⟩
end Go.Proofs.Ytgccpcnakkioiaa.Q

/- impl.doStep: the image that a step makes of a valid image. -/
namespace Go.Proofs.Ytgccpcnakkioiaa.Q
open Go.RowKit Go.Proofs.YtgccpcnakkioiaaW.PrintWords Go.Proofs.YtgccpcnakkioiaaW.PrintLast Go.Proofs.YtgccpcnakkioiaaW.PrintMore
open Go.Proofs.YtgccpcnakkioiaaW.PrintWords.Aside0 (mk)
attribute [local go_sem] max2_int min2_int max_two min_two max_three min_three max_four min_four
set_option linter.unusedVariables false
set_option linter.unusedSimpArgs false
open Go.Proofs.Ytgccpcnakkioiaa.Pure

def doStepV (a b p : Int) (d : List Int) (kind x y wd hg : Int) (pix : List Int) : Int × Int × Int × List Int × Bool :=
 if kind = 0 then (a, b, p, imgD (mirPx a p d) a.toNat b.toNat, true)
 else if kind = 1 then (b, a, p, imgD (turnPx a b p d) b.toNat a.toNat, true)
 else if kind = 2 then (a, b, p, invD d, true)
 else if kind = 3 then (if boxOn a b x y wd hg = true then (wd, hg, p, imgD (cropPx a p d x.toNat y.toNat) wd.toNat hg.toNat, true) else (0, 0, 0, [], false))
 else if kind = 4 then (if boxOn a b x y wd hg = true ∧ (pix.length : Int) = p ∧ pix.all byteI = true then (a, b, p, imgD (fillPx a p d x.toNat y.toNat wd.toNat hg.toNat pix) a.toNat b.toNat, true) else (0, 0, 0, [], false))
 else (0, 0, 0, [], false)
def impl_doStep.f (a b p : Int) (d : List Int) (kind x y wd hg : Int) (pix : List Int) : Option (Int × Int × Int × List Int × Bool) := if validI a b p d = true then some (doStepV a b p d kind x y wd hg pix) else none
set_option maxHeartbeats 4000000 in
set_option maxRecDepth 100000 in
theorem step0 (a b p : Int) (A : Option Addr) (c : Nat) (d : List Int) (x y wd hg : Int) (A3 : Option Addr) (c3 : Nat) (pix : List Int) (w : World) (hr0_3 : Kd.C (Kd.int .i64) w A d.length d) (hc0_3 : d.length ≤ c) (hr3 : Kd.C (Kd.int .i64) w A3 pix.length pix) (hc3 : pix.length ≤ c3) (hv1 : validI a b p d = true) :
  Calls Try.prog 45 #[.agg #[.int .i64 a, .int .i64 b, .int .i64 p, .slice A d.length c], .agg #[.int .i64 0, .int .i64 x, .int .i64 y, .int .i64 wd, .int .i64 hg, .slice A3 pix.length c3]] w fun e w' => ∃ v3_ : Value, e = .returned (.tuple #[.agg #[.int .i64 a, .int .i64 b, .int .i64 p, v3_], .bool true]) ∧ Kd.R (Kd.int .i64) 3 w' w.heap.size (fun _ => True) v3_ (imgD (mirPx a p d) a.toNat b.toNat) ∧ Below w.heap.size w w' := by
 have HC := mk hc0_3
 have HR := mk hr0_3
 have HB0 := mk (Below.refl w.heap.size w)
 have hu := Try.underlying28
 clear hr0_3 hc0_3 hr3 hc3
 have E1 := mk (show impl_MirrorImage.f a b p d = some (a, b, p, imgD (mirPx a p d) a.toNat b.toNat) from by unfold impl_MirrorImage.f; rw [hv1, if_pos rfl])
 clear hv1
 go_enter Try.func45, Try.ntmps45
 go_wp2_with (first | ((with_reducible refine gate_dst (N := 2) rfl ?_); refine box_event (by rfl) (N := 2) (by rfl) (cs := #[.int .i64 a, .int .i64 b, .int .i64 p, .slice A d.length c]) (t := 28) (by go_simp; done) ?_; intro g1 hg_ w1 hbox hb; have HB1 := mk (below_then HB0.out HB0.out.size hb); have Kg1_1 := mk hbox; clear hbox hb hg_) | ((with_reducible refine gate_dst (N := 3) rfl ?_); refine box_event (by rfl) (N := 3) (by rfl) (cs := #[.int .i64 0, .int .i64 x, .int .i64 y, .int .i64 wd, .int .i64 hg, .slice A3 pix.length c3]) (t := 43) (by go_simp; done) ?_; intro g3 hg_ w2 hbox hb; have HB2 := mk (below_then HB1.out HB1.out.size hb); have Kg1_2 := mk (blk_below Kg1_1.out hb); have Kg3_2 := mk hbox; clear hbox hb hg_) | ((with_reducible refine gate_dst (N := 4) rfl ?_); refine box_event (by rfl) (N := 4) (by rfl) (cs := #[.int .i64 0, .int .i64 0, .int .i64 0, .slice none 0 0]) (t := 28) (by go_simp; done) ?_; intro g2 hg_ w3 hbox hb; have HB3 := mk (below_then HB2.out HB2.out.size hb); have Gg2 := mk (show w.heap.size ≤ g2 from by rw [hg_]; exact HB2.out.size); have Kg1_3 := mk (blk_below Kg1_2.out hb); have Kg3_3 := mk (blk_below Kg3_2.out hb); have Kg2_3 := mk hbox; have fg1_0 : w3.cell? ⟨g1, 0, none⟩ = some (.int .i64 a) := (blk_cell Kg1_3.out 0).trans rfl; have fg1_1 : w3.cell? ⟨g1, 1, none⟩ = some (.int .i64 b) := (blk_cell Kg1_3.out 1).trans rfl; have fg1_2 : w3.cell? ⟨g1, 2, none⟩ = some (.int .i64 p) := (blk_cell Kg1_3.out 2).trans rfl; have fg1_3 : w3.cell? ⟨g1, 3, none⟩ = some (.slice A d.length c) := (blk_cell Kg1_3.out 3).trans rfl; have fg3_0 : w3.cell? ⟨g3, 0, none⟩ = some (.int .i64 0) := (blk_cell Kg3_3.out 0).trans rfl; clear hbox hb hg_) | (go_at_call 25; (with_reducible refine (impl_MirrorImage.calls a b p A c d a b p (imgD (mirPx a p d) a.toNat b.toNat) w3 (Kd.C_below HR.out HB3.out) HC.out E1.out).mono ?_); rintro e w4 ⟨v4, rfl, hr4, hb_⟩; have HB4 := mk (below_then HB3.out HB3.out.size hb_); have Kg2_4 := mk (blk_below Kg2_3.out hb_); have eg2_4_0 : w4.cell? ⟨g2, 0, none⟩ = some (.int .i64 0) := (blk_cell Kg2_4.out 0).trans rfl; have eg2_4_1 : w4.cell? ⟨g2, 1, none⟩ = some (.int .i64 0) := (blk_cell Kg2_4.out 1).trans rfl; have eg2_4_2 : w4.cell? ⟨g2, 2, none⟩ = some (.int .i64 0) := (blk_cell Kg2_4.out 2).trans rfl; have eg2_4_3 : w4.cell? ⟨g2, 3, none⟩ = some (.slice none 0 0) := (blk_cell Kg2_4.out 3).trans rfl; have yg2_4_0 := blk_frozen Kg2_4.out 0; have yg2_4_1 := blk_frozen Kg2_4.out 1; have yg2_4_2 := blk_frozen Kg2_4.out 2; have yg2_4_3 := blk_frozen Kg2_4.out 3; have HR4 := mk (Kd.R_lower hr4 HB3.out.size); obtain ⟨A4, c4, ev4⟩ := Kd.R_slice HR4.out; subst ev4; clear hr4 hb_))
 have G2 := Gg2.out
 have RR := Kd.R_types HR4.out Kg2_4.out (by decide)
 refine bodyPost_ret (results_ct rfl _ _ g2 28 #[.int .i64 a, .int .i64 b, .int .i64 p, .slice A4 (imgD (mirPx a p d) a.toNat b.toNat).length c4] (0, 0) _ rfl (by
  refine blk_put (cs := #[.int .i64 a, .int .i64 b, .int .i64 p, .slice none 0 0]) ?_ 3 _ rfl
  refine blk_put (cs := #[.int .i64 a, .int .i64 b, .int .i64 0, .slice none 0 0]) ?_ 2 _ rfl
  refine blk_put (cs := #[.int .i64 a, .int .i64 0, .int .i64 0, .slice none 0 0]) ?_ 1 _ rfl
  refine blk_put (cs := #[.int .i64 0, .int .i64 0, .int .i64 0, .slice none 0 0]) ?_ 0 _ rfl
  exact Kg2_4.out
  ) hu rfl (by kernel_rfl)) rfl ?_
 exact ⟨_, rfl, Kd.R_mono (Kd.R_far (Kd.R_far (Kd.R_far (Kd.R_far RR (fun k hk => hk.2) _) (fun k hk => hk.2) _) (fun k hk => hk.2) _) (fun k hk => hk.2) _) (fun _ _ => trivial), below_set (below_set (below_set (below_set HB4.out (by omega)) (by omega)) (by omega)) (by omega)⟩
set_option maxHeartbeats 4000000 in
set_option maxRecDepth 100000 in
theorem step1 (a b p : Int) (A : Option Addr) (c : Nat) (d : List Int) (x y wd hg : Int) (A3 : Option Addr) (c3 : Nat) (pix : List Int) (w : World) (hr0_3 : Kd.C (Kd.int .i64) w A d.length d) (hc0_3 : d.length ≤ c) (hr3 : Kd.C (Kd.int .i64) w A3 pix.length pix) (hc3 : pix.length ≤ c3) (hv1 : validI a b p d = true) :
  Calls Try.prog 45 #[.agg #[.int .i64 a, .int .i64 b, .int .i64 p, .slice A d.length c], .agg #[.int .i64 1, .int .i64 x, .int .i64 y, .int .i64 wd, .int .i64 hg, .slice A3 pix.length c3]] w fun e w' => ∃ v3_ : Value, e = .returned (.tuple #[.agg #[.int .i64 b, .int .i64 a, .int .i64 p, v3_], .bool true]) ∧ Kd.R (Kd.int .i64) 3 w' w.heap.size (fun _ => True) v3_ (imgD (turnPx a b p d) b.toNat a.toNat) ∧ Below w.heap.size w w' := by
 have HC := mk hc0_3
 have HR := mk hr0_3
 have HB0 := mk (Below.refl w.heap.size w)
 have hu := Try.underlying28
 clear hr0_3 hc0_3 hr3 hc3
 have E1 := mk (show impl_TurnImage.f a b p d 1 = some (b, a, p, imgD (turnPx a b p d) b.toNat a.toNat) from by unfold impl_TurnImage.f; rw [if_pos rfl, hv1, if_pos rfl])
 clear hv1
 go_enter Try.func45, Try.ntmps45
 go_wp2_with (first | ((with_reducible refine gate_dst (N := 2) rfl ?_); refine box_event (by rfl) (N := 2) (by rfl) (cs := #[.int .i64 a, .int .i64 b, .int .i64 p, .slice A d.length c]) (t := 28) (by go_simp; done) ?_; intro g1 hg_ w1 hbox hb; have HB1 := mk (below_then HB0.out HB0.out.size hb); have Kg1_1 := mk hbox; clear hbox hb hg_) | ((with_reducible refine gate_dst (N := 3) rfl ?_); refine box_event (by rfl) (N := 3) (by rfl) (cs := #[.int .i64 1, .int .i64 x, .int .i64 y, .int .i64 wd, .int .i64 hg, .slice A3 pix.length c3]) (t := 43) (by go_simp; done) ?_; intro g3 hg_ w2 hbox hb; have HB2 := mk (below_then HB1.out HB1.out.size hb); have Kg1_2 := mk (blk_below Kg1_1.out hb); have Kg3_2 := mk hbox; clear hbox hb hg_) | ((with_reducible refine gate_dst (N := 4) rfl ?_); refine box_event (by rfl) (N := 4) (by rfl) (cs := #[.int .i64 0, .int .i64 0, .int .i64 0, .slice none 0 0]) (t := 28) (by go_simp; done) ?_; intro g2 hg_ w3 hbox hb; have HB3 := mk (below_then HB2.out HB2.out.size hb); have Gg2 := mk (show w.heap.size ≤ g2 from by rw [hg_]; exact HB2.out.size); have Kg1_3 := mk (blk_below Kg1_2.out hb); have Kg3_3 := mk (blk_below Kg3_2.out hb); have Kg2_3 := mk hbox; have fg1_0 : w3.cell? ⟨g1, 0, none⟩ = some (.int .i64 a) := (blk_cell Kg1_3.out 0).trans rfl; have fg1_1 : w3.cell? ⟨g1, 1, none⟩ = some (.int .i64 b) := (blk_cell Kg1_3.out 1).trans rfl; have fg1_2 : w3.cell? ⟨g1, 2, none⟩ = some (.int .i64 p) := (blk_cell Kg1_3.out 2).trans rfl; have fg1_3 : w3.cell? ⟨g1, 3, none⟩ = some (.slice A d.length c) := (blk_cell Kg1_3.out 3).trans rfl; have fg3_0 : w3.cell? ⟨g3, 0, none⟩ = some (.int .i64 1) := (blk_cell Kg3_3.out 0).trans rfl; clear hbox hb hg_) | (go_at_call 26; (with_reducible refine (impl_TurnImage.calls a b p A c d 1 b a p (imgD (turnPx a b p d) b.toNat a.toNat) w3 (Kd.C_below HR.out HB3.out) HC.out E1.out).mono ?_); rintro e w4 ⟨v4, rfl, hr4, hb_⟩; have HB4 := mk (below_then HB3.out HB3.out.size hb_); have Kg2_4 := mk (blk_below Kg2_3.out hb_); have eg2_4_0 : w4.cell? ⟨g2, 0, none⟩ = some (.int .i64 0) := (blk_cell Kg2_4.out 0).trans rfl; have eg2_4_1 : w4.cell? ⟨g2, 1, none⟩ = some (.int .i64 0) := (blk_cell Kg2_4.out 1).trans rfl; have eg2_4_2 : w4.cell? ⟨g2, 2, none⟩ = some (.int .i64 0) := (blk_cell Kg2_4.out 2).trans rfl; have eg2_4_3 : w4.cell? ⟨g2, 3, none⟩ = some (.slice none 0 0) := (blk_cell Kg2_4.out 3).trans rfl; have yg2_4_0 := blk_frozen Kg2_4.out 0; have yg2_4_1 := blk_frozen Kg2_4.out 1; have yg2_4_2 := blk_frozen Kg2_4.out 2; have yg2_4_3 := blk_frozen Kg2_4.out 3; have HR4 := mk (Kd.R_lower hr4 HB3.out.size); obtain ⟨A4, c4, ev4⟩ := Kd.R_slice HR4.out; subst ev4; clear hr4 hb_))
 have G2 := Gg2.out
 have RR := Kd.R_types HR4.out Kg2_4.out (by decide)
 refine bodyPost_ret (results_ct rfl _ _ g2 28 #[.int .i64 b, .int .i64 a, .int .i64 p, .slice A4 (imgD (turnPx a b p d) b.toNat a.toNat).length c4] (0, 0) _ rfl (by
  refine blk_put (cs := #[.int .i64 b, .int .i64 a, .int .i64 p, .slice none 0 0]) ?_ 3 _ rfl
  refine blk_put (cs := #[.int .i64 b, .int .i64 a, .int .i64 0, .slice none 0 0]) ?_ 2 _ rfl
  refine blk_put (cs := #[.int .i64 b, .int .i64 0, .int .i64 0, .slice none 0 0]) ?_ 1 _ rfl
  refine blk_put (cs := #[.int .i64 0, .int .i64 0, .int .i64 0, .slice none 0 0]) ?_ 0 _ rfl
  exact Kg2_4.out
  ) hu rfl (by kernel_rfl)) rfl ?_
 exact ⟨_, rfl, Kd.R_mono (Kd.R_far (Kd.R_far (Kd.R_far (Kd.R_far RR (fun k hk => hk.2) _) (fun k hk => hk.2) _) (fun k hk => hk.2) _) (fun k hk => hk.2) _) (fun _ _ => trivial), below_set (below_set (below_set (below_set HB4.out (by omega)) (by omega)) (by omega)) (by omega)⟩
set_option maxHeartbeats 4000000 in
set_option maxRecDepth 100000 in
theorem step2 (a b p : Int) (A : Option Addr) (c : Nat) (d : List Int) (x y wd hg : Int) (A3 : Option Addr) (c3 : Nat) (pix : List Int) (w : World) (hr0_3 : Kd.C (Kd.int .i64) w A d.length d) (hc0_3 : d.length ≤ c) (hr3 : Kd.C (Kd.int .i64) w A3 pix.length pix) (hc3 : pix.length ≤ c3) (hv1 : validI a b p d = true) :
  Calls Try.prog 45 #[.agg #[.int .i64 a, .int .i64 b, .int .i64 p, .slice A d.length c], .agg #[.int .i64 2, .int .i64 x, .int .i64 y, .int .i64 wd, .int .i64 hg, .slice A3 pix.length c3]] w fun e w' => ∃ v3_ : Value, e = .returned (.tuple #[.agg #[.int .i64 a, .int .i64 b, .int .i64 p, v3_], .bool true]) ∧ Kd.R (Kd.int .i64) 3 w' w.heap.size (fun _ => True) v3_ (invD d) ∧ Below w.heap.size w w' := by
 have HC := mk hc0_3
 have HR := mk hr0_3
 have HB0 := mk (Below.refl w.heap.size w)
 have hu := Try.underlying28
 clear hr0_3 hc0_3 hr3 hc3
 have E1 := mk (show impl_InvertImage.f a b p d = some (a, b, p, invD d) from by unfold impl_InvertImage.f; rw [hv1, if_pos rfl])
 clear hv1
 go_enter Try.func45, Try.ntmps45
 go_wp2_with (first | ((with_reducible refine gate_dst (N := 2) rfl ?_); refine box_event (by rfl) (N := 2) (by rfl) (cs := #[.int .i64 a, .int .i64 b, .int .i64 p, .slice A d.length c]) (t := 28) (by go_simp; done) ?_; intro g1 hg_ w1 hbox hb; have HB1 := mk (below_then HB0.out HB0.out.size hb); have Kg1_1 := mk hbox; clear hbox hb hg_) | ((with_reducible refine gate_dst (N := 3) rfl ?_); refine box_event (by rfl) (N := 3) (by rfl) (cs := #[.int .i64 2, .int .i64 x, .int .i64 y, .int .i64 wd, .int .i64 hg, .slice A3 pix.length c3]) (t := 43) (by go_simp; done) ?_; intro g3 hg_ w2 hbox hb; have HB2 := mk (below_then HB1.out HB1.out.size hb); have Kg1_2 := mk (blk_below Kg1_1.out hb); have Kg3_2 := mk hbox; clear hbox hb hg_) | ((with_reducible refine gate_dst (N := 4) rfl ?_); refine box_event (by rfl) (N := 4) (by rfl) (cs := #[.int .i64 0, .int .i64 0, .int .i64 0, .slice none 0 0]) (t := 28) (by go_simp; done) ?_; intro g2 hg_ w3 hbox hb; have HB3 := mk (below_then HB2.out HB2.out.size hb); have Gg2 := mk (show w.heap.size ≤ g2 from by rw [hg_]; exact HB2.out.size); have Kg1_3 := mk (blk_below Kg1_2.out hb); have Kg3_3 := mk (blk_below Kg3_2.out hb); have Kg2_3 := mk hbox; have fg1_0 : w3.cell? ⟨g1, 0, none⟩ = some (.int .i64 a) := (blk_cell Kg1_3.out 0).trans rfl; have fg1_1 : w3.cell? ⟨g1, 1, none⟩ = some (.int .i64 b) := (blk_cell Kg1_3.out 1).trans rfl; have fg1_2 : w3.cell? ⟨g1, 2, none⟩ = some (.int .i64 p) := (blk_cell Kg1_3.out 2).trans rfl; have fg1_3 : w3.cell? ⟨g1, 3, none⟩ = some (.slice A d.length c) := (blk_cell Kg1_3.out 3).trans rfl; have fg3_0 : w3.cell? ⟨g3, 0, none⟩ = some (.int .i64 2) := (blk_cell Kg3_3.out 0).trans rfl; clear hbox hb hg_) | (go_at_call 27; (with_reducible refine (impl_InvertImage.calls a b p A c d a b p (invD d) w3 (Kd.C_below HR.out HB3.out) HC.out E1.out).mono ?_); rintro e w4 ⟨v4, rfl, hr4, hb_⟩; have HB4 := mk (below_then HB3.out HB3.out.size hb_); have Kg2_4 := mk (blk_below Kg2_3.out hb_); have eg2_4_0 : w4.cell? ⟨g2, 0, none⟩ = some (.int .i64 0) := (blk_cell Kg2_4.out 0).trans rfl; have eg2_4_1 : w4.cell? ⟨g2, 1, none⟩ = some (.int .i64 0) := (blk_cell Kg2_4.out 1).trans rfl; have eg2_4_2 : w4.cell? ⟨g2, 2, none⟩ = some (.int .i64 0) := (blk_cell Kg2_4.out 2).trans rfl; have eg2_4_3 : w4.cell? ⟨g2, 3, none⟩ = some (.slice none 0 0) := (blk_cell Kg2_4.out 3).trans rfl; have yg2_4_0 := blk_frozen Kg2_4.out 0; have yg2_4_1 := blk_frozen Kg2_4.out 1; have yg2_4_2 := blk_frozen Kg2_4.out 2; have yg2_4_3 := blk_frozen Kg2_4.out 3; have HR4 := mk (Kd.R_lower hr4 HB3.out.size); obtain ⟨A4, c4, ev4⟩ := Kd.R_slice HR4.out; subst ev4; clear hr4 hb_))
 have G2 := Gg2.out
 have RR := Kd.R_types HR4.out Kg2_4.out (by decide)
 refine bodyPost_ret (results_ct rfl _ _ g2 28 #[.int .i64 a, .int .i64 b, .int .i64 p, .slice A4 (invD d).length c4] (0, 0) _ rfl (by
  refine blk_put (cs := #[.int .i64 a, .int .i64 b, .int .i64 p, .slice none 0 0]) ?_ 3 _ rfl
  refine blk_put (cs := #[.int .i64 a, .int .i64 b, .int .i64 0, .slice none 0 0]) ?_ 2 _ rfl
  refine blk_put (cs := #[.int .i64 a, .int .i64 0, .int .i64 0, .slice none 0 0]) ?_ 1 _ rfl
  refine blk_put (cs := #[.int .i64 0, .int .i64 0, .int .i64 0, .slice none 0 0]) ?_ 0 _ rfl
  exact Kg2_4.out
  ) hu rfl (by kernel_rfl)) rfl ?_
 exact ⟨_, rfl, Kd.R_mono (Kd.R_far (Kd.R_far (Kd.R_far (Kd.R_far RR (fun k hk => hk.2) _) (fun k hk => hk.2) _) (fun k hk => hk.2) _) (fun k hk => hk.2) _) (fun _ _ => trivial), below_set (below_set (below_set (below_set HB4.out (by omega)) (by omega)) (by omega)) (by omega)⟩
set_option maxHeartbeats 4000000 in
set_option maxRecDepth 100000 in
theorem step3_yes (a b p : Int) (A : Option Addr) (c : Nat) (d : List Int) (x y wd hg : Int) (A3 : Option Addr) (c3 : Nat) (pix : List Int) (w : World) (hr0_3 : Kd.C (Kd.int .i64) w A d.length d) (hc0_3 : d.length ≤ c) (hr3 : Kd.C (Kd.int .i64) w A3 pix.length pix) (hc3 : pix.length ≤ c3) (hv1 : validI a b p d = true) (hv2 : boxOn a b x y wd hg = true) :
  Calls Try.prog 45 #[.agg #[.int .i64 a, .int .i64 b, .int .i64 p, .slice A d.length c], .agg #[.int .i64 3, .int .i64 x, .int .i64 y, .int .i64 wd, .int .i64 hg, .slice A3 pix.length c3]] w fun e w' => ∃ v3_ : Value, e = .returned (.tuple #[.agg #[.int .i64 wd, .int .i64 hg, .int .i64 p, v3_], .bool true]) ∧ Kd.R (Kd.int .i64) 3 w' w.heap.size (fun _ => True) v3_ (imgD (cropPx a p d x.toNat y.toNat) wd.toNat hg.toNat) ∧ Below w.heap.size w w' := by
 have HC := mk hc0_3
 have HR := mk hr0_3
 have HB0 := mk (Below.refl w.heap.size w)
 have hu := Try.underlying28
 clear hr0_3 hc0_3 hr3 hc3
 have E1 := mk (show impl_CropImage.f a b p d x y wd hg = some (wd, hg, p, imgD (cropPx a p d x.toNat y.toNat) wd.toNat hg.toNat, true) from by unfold impl_CropImage.f; rw [hv1, hv2, if_pos ⟨rfl, rfl⟩])
 clear hv1 hv2
 go_enter Try.func45, Try.ntmps45
 go_wp2_with (first | ((with_reducible refine gate_dst (N := 2) rfl ?_); refine box_event (by rfl) (N := 2) (by rfl) (cs := #[.int .i64 a, .int .i64 b, .int .i64 p, .slice A d.length c]) (t := 28) (by go_simp; done) ?_; intro g1 hg_ w1 hbox hb; have HB1 := mk (below_then HB0.out HB0.out.size hb); have Kg1_1 := mk hbox; clear hbox hb hg_) | ((with_reducible refine gate_dst (N := 3) rfl ?_); refine box_event (by rfl) (N := 3) (by rfl) (cs := #[.int .i64 3, .int .i64 x, .int .i64 y, .int .i64 wd, .int .i64 hg, .slice A3 pix.length c3]) (t := 43) (by go_simp; done) ?_; intro g3 hg_ w2 hbox hb; have HB2 := mk (below_then HB1.out HB1.out.size hb); have Kg1_2 := mk (blk_below Kg1_1.out hb); have Kg3_2 := mk hbox; clear hbox hb hg_) | ((with_reducible refine gate_dst (N := 4) rfl ?_); refine box_event (by rfl) (N := 4) (by rfl) (cs := #[.int .i64 0, .int .i64 0, .int .i64 0, .slice none 0 0]) (t := 28) (by go_simp; done) ?_; intro g2 hg_ w3 hbox hb; have HB3 := mk (below_then HB2.out HB2.out.size hb); have Gg2 := mk (show w.heap.size ≤ g2 from by rw [hg_]; exact HB2.out.size); have Kg1_3 := mk (blk_below Kg1_2.out hb); have Kg3_3 := mk (blk_below Kg3_2.out hb); have Kg2_3 := mk hbox; have fg1_0 : w3.cell? ⟨g1, 0, none⟩ = some (.int .i64 a) := (blk_cell Kg1_3.out 0).trans rfl; have fg1_1 : w3.cell? ⟨g1, 1, none⟩ = some (.int .i64 b) := (blk_cell Kg1_3.out 1).trans rfl; have fg1_2 : w3.cell? ⟨g1, 2, none⟩ = some (.int .i64 p) := (blk_cell Kg1_3.out 2).trans rfl; have fg1_3 : w3.cell? ⟨g1, 3, none⟩ = some (.slice A d.length c) := (blk_cell Kg1_3.out 3).trans rfl; have fg3_0 : w3.cell? ⟨g3, 0, none⟩ = some (.int .i64 3) := (blk_cell Kg3_3.out 0).trans rfl; have fg3_1 : w3.cell? ⟨g3, 1, none⟩ = some (.int .i64 x) := (blk_cell Kg3_3.out 1).trans rfl; have fg3_2 : w3.cell? ⟨g3, 2, none⟩ = some (.int .i64 y) := (blk_cell Kg3_3.out 2).trans rfl; have fg3_3 : w3.cell? ⟨g3, 3, none⟩ = some (.int .i64 wd) := (blk_cell Kg3_3.out 3).trans rfl; have fg3_4 : w3.cell? ⟨g3, 4, none⟩ = some (.int .i64 hg) := (blk_cell Kg3_3.out 4).trans rfl; clear hbox hb hg_) | (go_at_call 29; (with_reducible refine (impl_CropImage.calls a b p A c d x y wd hg wd hg p (imgD (cropPx a p d x.toNat y.toNat) wd.toNat hg.toNat) true w3 (Kd.C_below HR.out HB3.out) HC.out E1.out).mono ?_); rintro e w4 ⟨v4, rfl, hr4, hb_⟩; have HB4 := mk (below_then HB3.out HB3.out.size hb_); have Kg2_4 := mk (blk_below Kg2_3.out hb_); have eg2_4_0 : w4.cell? ⟨g2, 0, none⟩ = some (.int .i64 0) := (blk_cell Kg2_4.out 0).trans rfl; have eg2_4_1 : w4.cell? ⟨g2, 1, none⟩ = some (.int .i64 0) := (blk_cell Kg2_4.out 1).trans rfl; have eg2_4_2 : w4.cell? ⟨g2, 2, none⟩ = some (.int .i64 0) := (blk_cell Kg2_4.out 2).trans rfl; have eg2_4_3 : w4.cell? ⟨g2, 3, none⟩ = some (.slice none 0 0) := (blk_cell Kg2_4.out 3).trans rfl; have yg2_4_0 := blk_frozen Kg2_4.out 0; have yg2_4_1 := blk_frozen Kg2_4.out 1; have yg2_4_2 := blk_frozen Kg2_4.out 2; have yg2_4_3 := blk_frozen Kg2_4.out 3; have HR4 := mk (Kd.R_lower hr4 HB3.out.size); obtain ⟨A4, c4, ev4⟩ := Kd.R_slice HR4.out; subst ev4; clear hr4 hb_))
 have G2 := Gg2.out
 have RR := Kd.R_types HR4.out Kg2_4.out (by decide)
 refine bodyPost_ret (results_ct rfl _ _ g2 28 #[.int .i64 wd, .int .i64 hg, .int .i64 p, .slice A4 (imgD (cropPx a p d x.toNat y.toNat) wd.toNat hg.toNat).length c4] (0, 0) _ rfl (by
  refine blk_put (cs := #[.int .i64 wd, .int .i64 hg, .int .i64 p, .slice none 0 0]) ?_ 3 _ rfl
  refine blk_put (cs := #[.int .i64 wd, .int .i64 hg, .int .i64 0, .slice none 0 0]) ?_ 2 _ rfl
  refine blk_put (cs := #[.int .i64 wd, .int .i64 0, .int .i64 0, .slice none 0 0]) ?_ 1 _ rfl
  refine blk_put (cs := #[.int .i64 0, .int .i64 0, .int .i64 0, .slice none 0 0]) ?_ 0 _ rfl
  exact Kg2_4.out
  ) hu rfl (by kernel_rfl)) rfl ?_
 exact ⟨_, rfl, Kd.R_mono (Kd.R_far (Kd.R_far (Kd.R_far (Kd.R_far RR (fun k hk => hk.2) _) (fun k hk => hk.2) _) (fun k hk => hk.2) _) (fun k hk => hk.2) _) (fun _ _ => trivial), below_set (below_set (below_set (below_set HB4.out (by omega)) (by omega)) (by omega)) (by omega)⟩
set_option maxHeartbeats 4000000 in
set_option maxRecDepth 100000 in
theorem step3_no (a b p : Int) (A : Option Addr) (c : Nat) (d : List Int) (x y wd hg : Int) (A3 : Option Addr) (c3 : Nat) (pix : List Int) (w : World) (hr0_3 : Kd.C (Kd.int .i64) w A d.length d) (hc0_3 : d.length ≤ c) (hr3 : Kd.C (Kd.int .i64) w A3 pix.length pix) (hc3 : pix.length ≤ c3) (hv1 : validI a b p d = true) (hv2 : boxOn a b x y wd hg = false) :
  Calls Try.prog 45 #[.agg #[.int .i64 a, .int .i64 b, .int .i64 p, .slice A d.length c], .agg #[.int .i64 3, .int .i64 x, .int .i64 y, .int .i64 wd, .int .i64 hg, .slice A3 pix.length c3]] w fun e w' => ∃ v3_ : Value, e = .returned (.tuple #[.agg #[.int .i64 0, .int .i64 0, .int .i64 0, v3_], .bool false]) ∧ Kd.R (Kd.int .i64) 3 w' w.heap.size (fun _ => True) v3_ [] ∧ Below w.heap.size w w' := by
 have HC := mk hc0_3
 have HR := mk hr0_3
 have HB0 := mk (Below.refl w.heap.size w)
 have hu := Try.underlying28
 clear hr0_3 hc0_3 hr3 hc3
 have E1 := mk (show impl_CropImage.f a b p d x y wd hg = some (0, 0, 0, [], false) from by unfold impl_CropImage.f; rw [hv1, hv2, if_neg (by simp)])
 clear hv1 hv2
 go_enter Try.func45, Try.ntmps45
 go_wp2_with (first | ((with_reducible refine gate_dst (N := 2) rfl ?_); refine box_event (by rfl) (N := 2) (by rfl) (cs := #[.int .i64 a, .int .i64 b, .int .i64 p, .slice A d.length c]) (t := 28) (by go_simp; done) ?_; intro g1 hg_ w1 hbox hb; have HB1 := mk (below_then HB0.out HB0.out.size hb); have Kg1_1 := mk hbox; clear hbox hb hg_) | ((with_reducible refine gate_dst (N := 3) rfl ?_); refine box_event (by rfl) (N := 3) (by rfl) (cs := #[.int .i64 3, .int .i64 x, .int .i64 y, .int .i64 wd, .int .i64 hg, .slice A3 pix.length c3]) (t := 43) (by go_simp; done) ?_; intro g3 hg_ w2 hbox hb; have HB2 := mk (below_then HB1.out HB1.out.size hb); have Kg1_2 := mk (blk_below Kg1_1.out hb); have Kg3_2 := mk hbox; clear hbox hb hg_) | ((with_reducible refine gate_dst (N := 4) rfl ?_); refine box_event (by rfl) (N := 4) (by rfl) (cs := #[.int .i64 0, .int .i64 0, .int .i64 0, .slice none 0 0]) (t := 28) (by go_simp; done) ?_; intro g2 hg_ w3 hbox hb; have HB3 := mk (below_then HB2.out HB2.out.size hb); have Gg2 := mk (show w.heap.size ≤ g2 from by rw [hg_]; exact HB2.out.size); have Kg1_3 := mk (blk_below Kg1_2.out hb); have Kg3_3 := mk (blk_below Kg3_2.out hb); have Kg2_3 := mk hbox; have fg1_0 : w3.cell? ⟨g1, 0, none⟩ = some (.int .i64 a) := (blk_cell Kg1_3.out 0).trans rfl; have fg1_1 : w3.cell? ⟨g1, 1, none⟩ = some (.int .i64 b) := (blk_cell Kg1_3.out 1).trans rfl; have fg1_2 : w3.cell? ⟨g1, 2, none⟩ = some (.int .i64 p) := (blk_cell Kg1_3.out 2).trans rfl; have fg1_3 : w3.cell? ⟨g1, 3, none⟩ = some (.slice A d.length c) := (blk_cell Kg1_3.out 3).trans rfl; have fg3_0 : w3.cell? ⟨g3, 0, none⟩ = some (.int .i64 3) := (blk_cell Kg3_3.out 0).trans rfl; have fg3_1 : w3.cell? ⟨g3, 1, none⟩ = some (.int .i64 x) := (blk_cell Kg3_3.out 1).trans rfl; have fg3_2 : w3.cell? ⟨g3, 2, none⟩ = some (.int .i64 y) := (blk_cell Kg3_3.out 2).trans rfl; have fg3_3 : w3.cell? ⟨g3, 3, none⟩ = some (.int .i64 wd) := (blk_cell Kg3_3.out 3).trans rfl; have fg3_4 : w3.cell? ⟨g3, 4, none⟩ = some (.int .i64 hg) := (blk_cell Kg3_3.out 4).trans rfl; clear hbox hb hg_) | (go_at_call 29; (with_reducible refine (impl_CropImage.calls a b p A c d x y wd hg 0 0 0 [] false w3 (Kd.C_below HR.out HB3.out) HC.out E1.out).mono ?_); rintro e w4 ⟨v4, rfl, hr4, hb_⟩; have HB4 := mk (below_then HB3.out HB3.out.size hb_); have Kg2_4 := mk (blk_below Kg2_3.out hb_); have eg2_4_0 : w4.cell? ⟨g2, 0, none⟩ = some (.int .i64 0) := (blk_cell Kg2_4.out 0).trans rfl; have eg2_4_1 : w4.cell? ⟨g2, 1, none⟩ = some (.int .i64 0) := (blk_cell Kg2_4.out 1).trans rfl; have eg2_4_2 : w4.cell? ⟨g2, 2, none⟩ = some (.int .i64 0) := (blk_cell Kg2_4.out 2).trans rfl; have eg2_4_3 : w4.cell? ⟨g2, 3, none⟩ = some (.slice none 0 0) := (blk_cell Kg2_4.out 3).trans rfl; have yg2_4_0 := blk_frozen Kg2_4.out 0; have yg2_4_1 := blk_frozen Kg2_4.out 1; have yg2_4_2 := blk_frozen Kg2_4.out 2; have yg2_4_3 := blk_frozen Kg2_4.out 3; have HR4 := mk (Kd.R_lower hr4 HB3.out.size); obtain ⟨A4, c4, ev4⟩ := Kd.R_slice HR4.out; subst ev4; clear hr4 hb_))
 have G2 := Gg2.out
 have RR := Kd.R_types HR4.out Kg2_4.out (by decide)
 refine bodyPost_ret (results_ct rfl _ _ g2 28 #[.int .i64 0, .int .i64 0, .int .i64 0, .slice A4 0 c4] (0, 0) _ rfl (by
  refine blk_put (cs := #[.int .i64 0, .int .i64 0, .int .i64 0, .slice none 0 0]) ?_ 3 _ rfl
  refine blk_put (cs := #[.int .i64 0, .int .i64 0, .int .i64 0, .slice none 0 0]) ?_ 2 _ rfl
  refine blk_put (cs := #[.int .i64 0, .int .i64 0, .int .i64 0, .slice none 0 0]) ?_ 1 _ rfl
  refine blk_put (cs := #[.int .i64 0, .int .i64 0, .int .i64 0, .slice none 0 0]) ?_ 0 _ rfl
  exact Kg2_4.out
  ) hu rfl (by kernel_rfl)) rfl ?_
 exact ⟨_, rfl, Kd.R_mono (Kd.R_far (Kd.R_far (Kd.R_far (Kd.R_far RR (fun k hk => hk.2) _) (fun k hk => hk.2) _) (fun k hk => hk.2) _) (fun k hk => hk.2) _) (fun _ _ => trivial), below_set (below_set (below_set (below_set HB4.out (by omega)) (by omega)) (by omega)) (by omega)⟩
set_option maxHeartbeats 4000000 in
set_option maxRecDepth 100000 in
theorem step4_no1 (a b p : Int) (A : Option Addr) (c : Nat) (d : List Int) (x y wd hg : Int) (A3 : Option Addr) (c3 : Nat) (pix : List Int) (w : World) (hr0_3 : Kd.C (Kd.int .i64) w A d.length d) (hc0_3 : d.length ≤ c) (hr3 : Kd.C (Kd.int .i64) w A3 pix.length pix) (hc3 : pix.length ≤ c3) (hv1 : validI a b p d = true) (hv2 : boxOn a b x y wd hg = false) :
  Calls Try.prog 45 #[.agg #[.int .i64 a, .int .i64 b, .int .i64 p, .slice A d.length c], .agg #[.int .i64 4, .int .i64 x, .int .i64 y, .int .i64 wd, .int .i64 hg, .slice A3 pix.length c3]] w fun e w' => ∃ v3_ : Value, e = .returned (.tuple #[.agg #[.int .i64 0, .int .i64 0, .int .i64 0, v3_], .bool false]) ∧ Kd.R (Kd.int .i64) 3 w' w.heap.size (fun _ => True) v3_ [] ∧ Below w.heap.size w w' := by
 have HC := mk hc0_3
 have HR := mk hr0_3
 have HB0 := mk (Below.refl w.heap.size w)
 have hu := Try.underlying28
 clear hr0_3 hc0_3 hr3 hc3
 have E2 := mk (impl_isBoxOn_eq hv1 x y wd hg)
 rw [hv2] at E2
 clear hv1 hv2
 go_enter Try.func45, Try.ntmps45
 go_wp2_with (first | ((with_reducible refine gate_dst (N := 2) rfl ?_); refine box_event (by rfl) (N := 2) (by rfl) (cs := #[.int .i64 a, .int .i64 b, .int .i64 p, .slice A d.length c]) (t := 28) (by go_simp; done) ?_; intro g1 hg_ w1 hbox hb; have HB1 := mk (below_then HB0.out HB0.out.size hb); have Kg1_1 := mk hbox; clear hbox hb hg_) | ((with_reducible refine gate_dst (N := 3) rfl ?_); refine box_event (by rfl) (N := 3) (by rfl) (cs := #[.int .i64 4, .int .i64 x, .int .i64 y, .int .i64 wd, .int .i64 hg, .slice A3 pix.length c3]) (t := 43) (by go_simp; done) ?_; intro g3 hg_ w2 hbox hb; have HB2 := mk (below_then HB1.out HB1.out.size hb); have Kg1_2 := mk (blk_below Kg1_1.out hb); have Kg3_2 := mk hbox; clear hbox hb hg_) | ((with_reducible refine gate_dst (N := 4) rfl ?_); refine box_event (by rfl) (N := 4) (by rfl) (cs := #[.int .i64 0, .int .i64 0, .int .i64 0, .slice none 0 0]) (t := 28) (by go_simp; done) ?_; intro g2 hg_ w3 hbox hb; have HB3 := mk (below_then HB2.out HB2.out.size hb); have Gg2 := mk (show w.heap.size ≤ g2 from by rw [hg_]; exact HB2.out.size); have Kg1_3 := mk (blk_below Kg1_2.out hb); have Kg3_3 := mk (blk_below Kg3_2.out hb); have Kg2_3 := mk hbox; have fg1_0 : w3.cell? ⟨g1, 0, none⟩ = some (.int .i64 a) := (blk_cell Kg1_3.out 0).trans rfl; have fg1_1 : w3.cell? ⟨g1, 1, none⟩ = some (.int .i64 b) := (blk_cell Kg1_3.out 1).trans rfl; have fg1_2 : w3.cell? ⟨g1, 2, none⟩ = some (.int .i64 p) := (blk_cell Kg1_3.out 2).trans rfl; have fg1_3 : w3.cell? ⟨g1, 3, none⟩ = some (.slice A d.length c) := (blk_cell Kg1_3.out 3).trans rfl; have fg3_0 : w3.cell? ⟨g3, 0, none⟩ = some (.int .i64 4) := (blk_cell Kg3_3.out 0).trans rfl; have fg3_1 : w3.cell? ⟨g3, 1, none⟩ = some (.int .i64 x) := (blk_cell Kg3_3.out 1).trans rfl; have fg3_2 : w3.cell? ⟨g3, 2, none⟩ = some (.int .i64 y) := (blk_cell Kg3_3.out 2).trans rfl; have fg3_3 : w3.cell? ⟨g3, 3, none⟩ = some (.int .i64 wd) := (blk_cell Kg3_3.out 3).trans rfl; have fg3_4 : w3.cell? ⟨g3, 4, none⟩ = some (.int .i64 hg) := (blk_cell Kg3_3.out 4).trans rfl; clear hbox hb hg_) | (go_at_call 59; (with_reducible refine (impl_isBoxOn.calls a b p A c d x y wd hg _ w3 (Kd.C_below HR.out HB3.out) HC.out E2.out).mono ?_); rintro e w4 ⟨rfl, hb_⟩; have HB4 := mk (below_then HB3.out HB3.out.size hb_); have Kg2_4 := mk (blk_below Kg2_3.out hb_); have eg2_4_0 : w4.cell? ⟨g2, 0, none⟩ = some (.int .i64 0) := (blk_cell Kg2_4.out 0).trans rfl; have eg2_4_1 : w4.cell? ⟨g2, 1, none⟩ = some (.int .i64 0) := (blk_cell Kg2_4.out 1).trans rfl; have eg2_4_2 : w4.cell? ⟨g2, 2, none⟩ = some (.int .i64 0) := (blk_cell Kg2_4.out 2).trans rfl; have eg2_4_3 : w4.cell? ⟨g2, 3, none⟩ = some (.slice none 0 0) := (blk_cell Kg2_4.out 3).trans rfl; have yg2_4_0 := blk_frozen Kg2_4.out 0; have yg2_4_1 := blk_frozen Kg2_4.out 1; have yg2_4_2 := blk_frozen Kg2_4.out 2; have yg2_4_3 := blk_frozen Kg2_4.out 3; clear hb_))
 refine bodyPost_ret (results_ct rfl _ _ g2 28 #[.int .i64 0, .int .i64 0, .int .i64 0, .slice none 0 0] (0, 0) _ rfl (by
  refine blk_put (cs := #[.int .i64 0, .int .i64 0, .int .i64 0, .slice none 0 0]) ?_ 3 _ rfl
  refine blk_put (cs := #[.int .i64 0, .int .i64 0, .int .i64 0, .slice none 0 0]) ?_ 2 _ rfl
  refine blk_put (cs := #[.int .i64 0, .int .i64 0, .int .i64 0, .slice none 0 0]) ?_ 1 _ rfl
  refine blk_put (cs := #[.int .i64 0, .int .i64 0, .int .i64 0, .slice none 0 0]) ?_ 0 _ rfl
  exact Kg2_4.out
  ) hu rfl (by kernel_rfl)) rfl ?_
 have G2 := Gg2.out
 exact ⟨_, rfl, Kd.R_nil _ _ _ _ _, below_set (below_set (below_set (below_set HB4.out (by omega)) (by omega)) (by omega)) (by omega)⟩
set_option maxHeartbeats 4000000 in
set_option maxRecDepth 100000 in
theorem step4_no2 (a b p : Int) (A : Option Addr) (c : Nat) (d : List Int) (x y wd hg : Int) (A3 : Option Addr) (c3 : Nat) (pix : List Int) (w : World) (hr0_3 : Kd.C (Kd.int .i64) w A d.length d) (hc0_3 : d.length ≤ c) (hr3 : Kd.C (Kd.int .i64) w A3 pix.length pix) (hc3 : pix.length ≤ c3) (hv1 : validI a b p d = true) (hv2 : boxOn a b x y wd hg = true) (hv3 : ¬ (pix.length : Int) = p) :
  Calls Try.prog 45 #[.agg #[.int .i64 a, .int .i64 b, .int .i64 p, .slice A d.length c], .agg #[.int .i64 4, .int .i64 x, .int .i64 y, .int .i64 wd, .int .i64 hg, .slice A3 pix.length c3]] w fun e w' => ∃ v3_ : Value, e = .returned (.tuple #[.agg #[.int .i64 0, .int .i64 0, .int .i64 0, v3_], .bool false]) ∧ Kd.R (Kd.int .i64) 3 w' w.heap.size (fun _ => True) v3_ [] ∧ Below w.heap.size w w' := by
 have HC := mk hc0_3
 have HR := mk hr0_3
 have HB0 := mk (Below.refl w.heap.size w)
 have hu := Try.underlying28
 clear hr0_3 hc0_3 hr3 hc3
 have E2 := mk (impl_isBoxOn_eq hv1 x y wd hg)
 rw [hv2] at E2
 clear hv1 hv2
 go_enter Try.func45, Try.ntmps45
 go_wp2_with (first | ((with_reducible refine gate_dst (N := 2) rfl ?_); refine box_event (by rfl) (N := 2) (by rfl) (cs := #[.int .i64 a, .int .i64 b, .int .i64 p, .slice A d.length c]) (t := 28) (by go_simp; done) ?_; intro g1 hg_ w1 hbox hb; have HB1 := mk (below_then HB0.out HB0.out.size hb); have Kg1_1 := mk hbox; clear hbox hb hg_) | ((with_reducible refine gate_dst (N := 3) rfl ?_); refine box_event (by rfl) (N := 3) (by rfl) (cs := #[.int .i64 4, .int .i64 x, .int .i64 y, .int .i64 wd, .int .i64 hg, .slice A3 pix.length c3]) (t := 43) (by go_simp; done) ?_; intro g3 hg_ w2 hbox hb; have HB2 := mk (below_then HB1.out HB1.out.size hb); have Kg1_2 := mk (blk_below Kg1_1.out hb); have Kg3_2 := mk hbox; clear hbox hb hg_) | ((with_reducible refine gate_dst (N := 4) rfl ?_); refine box_event (by rfl) (N := 4) (by rfl) (cs := #[.int .i64 0, .int .i64 0, .int .i64 0, .slice none 0 0]) (t := 28) (by go_simp; done) ?_; intro g2 hg_ w3 hbox hb; have HB3 := mk (below_then HB2.out HB2.out.size hb); have Gg2 := mk (show w.heap.size ≤ g2 from by rw [hg_]; exact HB2.out.size); have Kg1_3 := mk (blk_below Kg1_2.out hb); have Kg3_3 := mk (blk_below Kg3_2.out hb); have Kg2_3 := mk hbox; have fg1_0 : w3.cell? ⟨g1, 0, none⟩ = some (.int .i64 a) := (blk_cell Kg1_3.out 0).trans rfl; have fg1_1 : w3.cell? ⟨g1, 1, none⟩ = some (.int .i64 b) := (blk_cell Kg1_3.out 1).trans rfl; have fg1_2 : w3.cell? ⟨g1, 2, none⟩ = some (.int .i64 p) := (blk_cell Kg1_3.out 2).trans rfl; have fg1_3 : w3.cell? ⟨g1, 3, none⟩ = some (.slice A d.length c) := (blk_cell Kg1_3.out 3).trans rfl; have fg3_0 : w3.cell? ⟨g3, 0, none⟩ = some (.int .i64 4) := (blk_cell Kg3_3.out 0).trans rfl; have fg3_1 : w3.cell? ⟨g3, 1, none⟩ = some (.int .i64 x) := (blk_cell Kg3_3.out 1).trans rfl; have fg3_2 : w3.cell? ⟨g3, 2, none⟩ = some (.int .i64 y) := (blk_cell Kg3_3.out 2).trans rfl; have fg3_3 : w3.cell? ⟨g3, 3, none⟩ = some (.int .i64 wd) := (blk_cell Kg3_3.out 3).trans rfl; have fg3_4 : w3.cell? ⟨g3, 4, none⟩ = some (.int .i64 hg) := (blk_cell Kg3_3.out 4).trans rfl; clear hbox hb hg_) | (go_at_call 59; (with_reducible refine (impl_isBoxOn.calls a b p A c d x y wd hg _ w3 (Kd.C_below HR.out HB3.out) HC.out E2.out).mono ?_); rintro e w4 ⟨rfl, hb_⟩; have HB4 := mk (below_then HB3.out HB3.out.size hb_); have Kg1_4 := mk (blk_below Kg1_3.out hb_); have eg1_4_2 : w4.cell? ⟨g1, 2, none⟩ = some (.int .i64 p) := (blk_cell Kg1_4.out 2).trans rfl; have Kg3_4 := mk (blk_below Kg3_3.out hb_); have eg3_4_5 : w4.cell? ⟨g3, 5, none⟩ = some (.slice A3 pix.length c3) := (blk_cell Kg3_4.out 5).trans rfl; have Kg2_4 := mk (blk_below Kg2_3.out hb_); have eg2_4_0 : w4.cell? ⟨g2, 0, none⟩ = some (.int .i64 0) := (blk_cell Kg2_4.out 0).trans rfl; have eg2_4_1 : w4.cell? ⟨g2, 1, none⟩ = some (.int .i64 0) := (blk_cell Kg2_4.out 1).trans rfl; have eg2_4_2 : w4.cell? ⟨g2, 2, none⟩ = some (.int .i64 0) := (blk_cell Kg2_4.out 2).trans rfl; have eg2_4_3 : w4.cell? ⟨g2, 3, none⟩ = some (.slice none 0 0) := (blk_cell Kg2_4.out 3).trans rfl; have yg2_4_0 := blk_frozen Kg2_4.out 0; have yg2_4_1 := blk_frozen Kg2_4.out 1; have yg2_4_2 := blk_frozen Kg2_4.out 2; have yg2_4_3 := blk_frozen Kg2_4.out 3; clear hb_))
 refine bodyPost_ret (results_ct rfl _ _ g2 28 #[.int .i64 0, .int .i64 0, .int .i64 0, .slice none 0 0] (0, 0) _ rfl (by
  refine blk_put (cs := #[.int .i64 0, .int .i64 0, .int .i64 0, .slice none 0 0]) ?_ 3 _ rfl
  refine blk_put (cs := #[.int .i64 0, .int .i64 0, .int .i64 0, .slice none 0 0]) ?_ 2 _ rfl
  refine blk_put (cs := #[.int .i64 0, .int .i64 0, .int .i64 0, .slice none 0 0]) ?_ 1 _ rfl
  refine blk_put (cs := #[.int .i64 0, .int .i64 0, .int .i64 0, .slice none 0 0]) ?_ 0 _ rfl
  exact Kg2_4.out
  ) hu rfl (by kernel_rfl)) rfl ?_
 have G2 := Gg2.out
 exact ⟨_, rfl, Kd.R_nil _ _ _ _ _, below_set (below_set (below_set (below_set HB4.out (by omega)) (by omega)) (by omega)) (by omega)⟩
set_option maxHeartbeats 4000000 in
set_option maxRecDepth 100000 in
theorem step4_no3 (a b : Int) (A : Option Addr) (c : Nat) (d : List Int) (x y wd hg : Int) (A3 : Option Addr) (c3 : Nat) (pix : List Int) (w : World) (hr0_3 : Kd.C (Kd.int .i64) w A d.length d) (hc0_3 : d.length ≤ c) (hr3 : Kd.C (Kd.int .i64) w A3 pix.length pix) (hc3 : pix.length ≤ c3) (hv1 : validI a b (pix.length : Int) d = true) (hv2 : boxOn a b x y wd hg = true) (hv4 : pix.all byteI = false) :
  Calls Try.prog 45 #[.agg #[.int .i64 a, .int .i64 b, .int .i64 (pix.length : Int), .slice A d.length c], .agg #[.int .i64 4, .int .i64 x, .int .i64 y, .int .i64 wd, .int .i64 hg, .slice A3 pix.length c3]] w fun e w' => ∃ v3_ : Value, e = .returned (.tuple #[.agg #[.int .i64 0, .int .i64 0, .int .i64 0, v3_], .bool false]) ∧ Kd.R (Kd.int .i64) 3 w' w.heap.size (fun _ => True) v3_ [] ∧ Below w.heap.size w w' := by
 have HC := mk hc0_3
 have HR := mk hr0_3
 have HC3 := mk hc3
 have HR3 := mk hr3
 have HB0 := mk (Below.refl w.heap.size w)
 have hu := Try.underlying28
 clear hr0_3 hc0_3 hr3 hc3
 have E2 := mk (impl_isBoxOn_eq hv1 x y wd hg)
 rw [hv2] at E2
 have E3 := mk (areBytesI_eq pix)
 rw [hv4] at E3
 clear hv1 hv2 hv4
 go_enter Try.func45, Try.ntmps45
 go_wp2_with (first | ((with_reducible refine gate_dst (N := 2) rfl ?_); refine box_event (by rfl) (N := 2) (by rfl) (cs := #[.int .i64 a, .int .i64 b, .int .i64 (pix.length : Int), .slice A d.length c]) (t := 28) (by go_simp; done) ?_; intro g1 hg_ w1 hbox hb; have HB1 := mk (below_then HB0.out HB0.out.size hb); have Kg1_1 := mk hbox; clear hbox hb hg_) | ((with_reducible refine gate_dst (N := 3) rfl ?_); refine box_event (by rfl) (N := 3) (by rfl) (cs := #[.int .i64 4, .int .i64 x, .int .i64 y, .int .i64 wd, .int .i64 hg, .slice A3 pix.length c3]) (t := 43) (by go_simp; done) ?_; intro g3 hg_ w2 hbox hb; have HB2 := mk (below_then HB1.out HB1.out.size hb); have Kg1_2 := mk (blk_below Kg1_1.out hb); have Kg3_2 := mk hbox; clear hbox hb hg_) | ((with_reducible refine gate_dst (N := 4) rfl ?_); refine box_event (by rfl) (N := 4) (by rfl) (cs := #[.int .i64 0, .int .i64 0, .int .i64 0, .slice none 0 0]) (t := 28) (by go_simp; done) ?_; intro g2 hg_ w3 hbox hb; have HB3 := mk (below_then HB2.out HB2.out.size hb); have Gg2 := mk (show w.heap.size ≤ g2 from by rw [hg_]; exact HB2.out.size); have Kg1_3 := mk (blk_below Kg1_2.out hb); have Kg3_3 := mk (blk_below Kg3_2.out hb); have Kg2_3 := mk hbox; have fg1_0 : w3.cell? ⟨g1, 0, none⟩ = some (.int .i64 a) := (blk_cell Kg1_3.out 0).trans rfl; have fg1_1 : w3.cell? ⟨g1, 1, none⟩ = some (.int .i64 b) := (blk_cell Kg1_3.out 1).trans rfl; have fg1_2 : w3.cell? ⟨g1, 2, none⟩ = some (.int .i64 (pix.length : Int)) := (blk_cell Kg1_3.out 2).trans rfl; have fg1_3 : w3.cell? ⟨g1, 3, none⟩ = some (.slice A d.length c) := (blk_cell Kg1_3.out 3).trans rfl; have fg3_0 : w3.cell? ⟨g3, 0, none⟩ = some (.int .i64 4) := (blk_cell Kg3_3.out 0).trans rfl; have fg3_1 : w3.cell? ⟨g3, 1, none⟩ = some (.int .i64 x) := (blk_cell Kg3_3.out 1).trans rfl; have fg3_2 : w3.cell? ⟨g3, 2, none⟩ = some (.int .i64 y) := (blk_cell Kg3_3.out 2).trans rfl; have fg3_3 : w3.cell? ⟨g3, 3, none⟩ = some (.int .i64 wd) := (blk_cell Kg3_3.out 3).trans rfl; have fg3_4 : w3.cell? ⟨g3, 4, none⟩ = some (.int .i64 hg) := (blk_cell Kg3_3.out 4).trans rfl; clear hbox hb hg_) | (go_at_call 59; (with_reducible refine (impl_isBoxOn.calls a b (pix.length : Int) A c d x y wd hg _ w3 (Kd.C_below HR.out HB3.out) HC.out E2.out).mono ?_); rintro e w4 ⟨rfl, hb_⟩; have HB4 := mk (below_then HB3.out HB3.out.size hb_); have Kg1_4 := mk (blk_below Kg1_3.out hb_); have eg1_4_2 : w4.cell? ⟨g1, 2, none⟩ = some (.int .i64 (pix.length : Int)) := (blk_cell Kg1_4.out 2).trans rfl; have Kg3_4 := mk (blk_below Kg3_3.out hb_); have eg3_4_5 : w4.cell? ⟨g3, 5, none⟩ = some (.slice A3 pix.length c3) := (blk_cell Kg3_4.out 5).trans rfl; have Kg2_4 := mk (blk_below Kg2_3.out hb_); clear hb_) | (go_at_call 63; (with_reducible refine (impl_areBytes.calls A3 c3 pix _ w4 (Kd.C_below HR3.out HB4.out) HC3.out E3.out).mono ?_); rintro e w5 ⟨rfl, hd_⟩; have hb_ := hd_.below; have HB5 := mk (below_then HB4.out HB4.out.size hb_); have Kg2_5 := mk (blk_below Kg2_4.out hb_); have eg2_5_0 : w5.cell? ⟨g2, 0, none⟩ = some (.int .i64 0) := (blk_cell Kg2_5.out 0).trans rfl; have eg2_5_1 : w5.cell? ⟨g2, 1, none⟩ = some (.int .i64 0) := (blk_cell Kg2_5.out 1).trans rfl; have eg2_5_2 : w5.cell? ⟨g2, 2, none⟩ = some (.int .i64 0) := (blk_cell Kg2_5.out 2).trans rfl; have eg2_5_3 : w5.cell? ⟨g2, 3, none⟩ = some (.slice none 0 0) := (blk_cell Kg2_5.out 3).trans rfl; have yg2_5_0 := blk_frozen Kg2_5.out 0; have yg2_5_1 := blk_frozen Kg2_5.out 1; have yg2_5_2 := blk_frozen Kg2_5.out 2; have yg2_5_3 := blk_frozen Kg2_5.out 3; clear hd_ hb_))
 refine bodyPost_ret (results_ct rfl _ _ g2 28 #[.int .i64 0, .int .i64 0, .int .i64 0, .slice none 0 0] (0, 0) _ rfl (by
  refine blk_put (cs := #[.int .i64 0, .int .i64 0, .int .i64 0, .slice none 0 0]) ?_ 3 _ rfl
  refine blk_put (cs := #[.int .i64 0, .int .i64 0, .int .i64 0, .slice none 0 0]) ?_ 2 _ rfl
  refine blk_put (cs := #[.int .i64 0, .int .i64 0, .int .i64 0, .slice none 0 0]) ?_ 1 _ rfl
  refine blk_put (cs := #[.int .i64 0, .int .i64 0, .int .i64 0, .slice none 0 0]) ?_ 0 _ rfl
  exact Kg2_5.out
  ) hu rfl (by kernel_rfl)) rfl ?_
 have G2 := Gg2.out
 exact ⟨_, rfl, Kd.R_nil _ _ _ _ _, below_set (below_set (below_set (below_set HB5.out (by omega)) (by omega)) (by omega)) (by omega)⟩
set_option maxHeartbeats 4000000 in
set_option maxRecDepth 100000 in
theorem step4_yes (a b : Nat) (A : Option Addr) (c : Nat) (d : List Int) (x y wd hg : Nat) (A3 : Option Addr) (c3 : Nat) (pix : List Int) (w : World) (hr0_3 : Kd.C (Kd.int .i64) w A d.length d) (hc0_3 : d.length ≤ c) (hr3 : Kd.C (Kd.int .i64) w A3 pix.length pix) (hc3 : pix.length ≤ c3) (hv1 : validI a b (pix.length : Int) d = true) (hv2 : boxOn a b x y wd hg = true) (hv4 : pix.all byteI = true) :
  Calls Try.prog 45 #[.agg #[.int .i64 (a : Int), .int .i64 (b : Int), .int .i64 (pix.length : Int), .slice A d.length c], .agg #[.int .i64 4, .int .i64 (x : Int), .int .i64 (y : Int), .int .i64 (wd : Int), .int .i64 (hg : Int), .slice A3 pix.length c3]] w fun e w' => ∃ v3_ : Value, e = .returned (.tuple #[.agg #[.int .i64 (a : Int), .int .i64 (b : Int), .int .i64 (pix.length : Int), v3_], .bool true]) ∧ Kd.R (Kd.int .i64) 3 w' w.heap.size (fun _ => True) v3_ (imgD (fillPx a (pix.length : Int) d x y wd hg pix) a b) ∧ Below w.heap.size w w' := by
 have HC := mk hc0_3
 have HR := mk hr0_3
 have HC3 := mk hc3
 have HR3 := mk hr3
 have HB0 := mk (Below.refl w.heap.size w)
 have HV := mk hv1
 have hu := Try.underlying28
 have hm := hr3.2.1
 clear hr0_3 hc0_3 hr3 hc3
 have E2 := mk (impl_isBoxOn_eq hv1 x y wd hg)
 rw [hv2] at E2
 have E3 := mk (areBytesI_eq pix)
 rw [hv4] at E3
 have hs := ((validI_iff a b pix.length d).1 hv1).1
 have hbx := (boxOn_iff a b x y wd hg).1 hv2
 have HPL := mk (show ∀ i j, i < a → j < b → ((fillPx a (pix.length : Int) d x y wd hg pix) i j).length ≤ 4 from fun i j hi hj => by
  unfold fillPx
  split
  ·omega
  exact pxAt_le hv1 (by omega) (by omega))
 clear hv1 hv2 hv4
 go_enter Try.func45, Try.ntmps45
 go_wp2_with (first | ((with_reducible refine gate_dst (N := 2) rfl ?_); refine box_event (by rfl) (N := 2) (by rfl) (cs := #[.int .i64 (a : Int), .int .i64 (b : Int), .int .i64 (pix.length : Int), .slice A d.length c]) (t := 28) (by go_simp; done) ?_; intro g1 hg_ w1 hbox hb; have HB1 := mk (below_then HB0.out HB0.out.size hb); have Kg1_1 := mk hbox; clear hbox hb hg_) | ((with_reducible refine gate_dst (N := 3) rfl ?_); refine box_event (by rfl) (N := 3) (by rfl) (cs := #[.int .i64 4, .int .i64 (x : Int), .int .i64 (y : Int), .int .i64 (wd : Int), .int .i64 (hg : Int), .slice A3 pix.length c3]) (t := 43) (by go_simp; done) ?_; intro g3 hg_ w2 hbox hb; have HB2 := mk (below_then HB1.out HB1.out.size hb); have Kg1_2 := mk (blk_below Kg1_1.out hb); have Kg3_2 := mk hbox; clear hbox hb hg_) | ((with_reducible refine gate_dst (N := 4) rfl ?_); refine box_event (by rfl) (N := 4) (by rfl) (cs := #[.int .i64 0, .int .i64 0, .int .i64 0, .slice none 0 0]) (t := 28) (by go_simp; done) ?_; intro g2 hg_ w3 hbox hb; have HB3 := mk (below_then HB2.out HB2.out.size hb); have Gg2 := mk (show w.heap.size ≤ g2 from by rw [hg_]; exact HB2.out.size); have Kg1_3 := mk (blk_below Kg1_2.out hb); have Kg3_3 := mk (blk_below Kg3_2.out hb); have Kg2_3 := mk hbox; have fg1_0 : w3.cell? ⟨g1, 0, none⟩ = some (.int .i64 (a : Int)) := (blk_cell Kg1_3.out 0).trans rfl; have fg1_1 : w3.cell? ⟨g1, 1, none⟩ = some (.int .i64 (b : Int)) := (blk_cell Kg1_3.out 1).trans rfl; have fg1_2 : w3.cell? ⟨g1, 2, none⟩ = some (.int .i64 (pix.length : Int)) := (blk_cell Kg1_3.out 2).trans rfl; have fg1_3 : w3.cell? ⟨g1, 3, none⟩ = some (.slice A d.length c) := (blk_cell Kg1_3.out 3).trans rfl; have fg3_0 : w3.cell? ⟨g3, 0, none⟩ = some (.int .i64 4) := (blk_cell Kg3_3.out 0).trans rfl; have fg3_1 : w3.cell? ⟨g3, 1, none⟩ = some (.int .i64 (x : Int)) := (blk_cell Kg3_3.out 1).trans rfl; have fg3_2 : w3.cell? ⟨g3, 2, none⟩ = some (.int .i64 (y : Int)) := (blk_cell Kg3_3.out 2).trans rfl; have fg3_3 : w3.cell? ⟨g3, 3, none⟩ = some (.int .i64 (wd : Int)) := (blk_cell Kg3_3.out 3).trans rfl; have fg3_4 : w3.cell? ⟨g3, 4, none⟩ = some (.int .i64 (hg : Int)) := (blk_cell Kg3_3.out 4).trans rfl; clear hbox hb hg_) | (go_at_call 59; (with_reducible refine (impl_isBoxOn.calls a b (pix.length : Int) A c d x y wd hg _ w3 (Kd.C_below HR.out HB3.out) HC.out E2.out).mono ?_); rintro e w4 ⟨rfl, hb_⟩; have HB4 := mk (below_then HB3.out HB3.out.size hb_); have Kg1_4 := mk (blk_below Kg1_3.out hb_); have eg1_4_2 : w4.cell? ⟨g1, 2, none⟩ = some (.int .i64 (pix.length : Int)) := (blk_cell Kg1_4.out 2).trans rfl; have Kg3_4 := mk (blk_below Kg3_3.out hb_); have eg3_4_5 : w4.cell? ⟨g3, 5, none⟩ = some (.slice A3 pix.length c3) := (blk_cell Kg3_4.out 5).trans rfl; have Kg2_4 := mk (blk_below Kg2_3.out hb_); clear hb_) | (go_at_call 63; (with_reducible refine (impl_areBytes.calls A3 c3 pix _ w4 (Kd.C_below HR3.out HB4.out) HC3.out E3.out).mono ?_); rintro e w5 ⟨rfl, hd_⟩; have hb_ := hd_.below; have HB5 := mk (below_then HB4.out HB4.out.size hb_); have Kg1_5 := mk (blk_below Kg1_4.out hb_); have eg1_5_0 : w5.cell? ⟨g1, 0, none⟩ = some (.int .i64 (a : Int)) := (blk_cell Kg1_5.out 0).trans rfl; have eg1_5_1 : w5.cell? ⟨g1, 1, none⟩ = some (.int .i64 (b : Int)) := (blk_cell Kg1_5.out 1).trans rfl; have eg1_5_2 : w5.cell? ⟨g1, 2, none⟩ = some (.int .i64 (pix.length : Int)) := (blk_cell Kg1_5.out 2).trans rfl; have Kg3_5 := mk (blk_below Kg3_4.out hb_); have Kg2_5 := mk (blk_below Kg2_4.out hb_); clear hd_ hb_) | (go_at_call 53; refine (imageBy_calls 80 #[.pointer (some ⟨g3, 0, none⟩), .pointer (some ⟨g1, 0, none⟩)] (fillPx a (pix.length : Int) d x y wd hg pix) a b (pix.length : Int) (by omega) (by omega) w5 (enters_of Try.func80 (by kernel_rfl) rfl) HPL.out (fun W i j hi hj hW => fill1_calls a b pix.length A c d HV.out HC.out 4 x y wd hg (by omega) (by omega) (by omega) (by omega) A3 c3 pix HC3.out i j (by omega) (by omega) g3 W (blk_below Kg3_5.out hW) g1 (blk_below Kg1_5.out hW) (Kd.C_below (Kd.C_below HR.out HB5.out) hW) (Kd.C_below (Kd.C_below HR3.out HB5.out) hW))).mono ?_; rintro e w6 ⟨v6, rfl, hr6, hb_⟩; have HB6 := mk (below_then HB5.out HB5.out.size hb_); have Kg2_6 := mk (blk_below Kg2_5.out hb_); have eg2_6_0 : w6.cell? ⟨g2, 0, none⟩ = some (.int .i64 0) := (blk_cell Kg2_6.out 0).trans rfl; have eg2_6_1 : w6.cell? ⟨g2, 1, none⟩ = some (.int .i64 0) := (blk_cell Kg2_6.out 1).trans rfl; have eg2_6_2 : w6.cell? ⟨g2, 2, none⟩ = some (.int .i64 0) := (blk_cell Kg2_6.out 2).trans rfl; have eg2_6_3 : w6.cell? ⟨g2, 3, none⟩ = some (.slice none 0 0) := (blk_cell Kg2_6.out 3).trans rfl; have yg2_6_0 := blk_frozen Kg2_6.out 0; have yg2_6_1 := blk_frozen Kg2_6.out 1; have yg2_6_2 := blk_frozen Kg2_6.out 2; have yg2_6_3 := blk_frozen Kg2_6.out 3; have HR6 := mk (Kd.R_lower hr6 HB5.out.size); obtain ⟨A6, c6, ev6⟩ := Kd.R_slice HR6.out; subst ev6; clear hr6 hb_))
 have G2 := Gg2.out
 have RR := Kd.R_types HR6.out Kg2_6.out (by decide)
 refine bodyPost_ret (results_ct rfl _ _ g2 28 #[.int .i64 (a : Int), .int .i64 (b : Int), .int .i64 (pix.length : Int), .slice A6 (imgD (fillPx a (pix.length : Int) d x y wd hg pix) a b).length c6] (0, 0) _ rfl (by
  refine blk_put (cs := #[.int .i64 (a : Int), .int .i64 (b : Int), .int .i64 (pix.length : Int), .slice none 0 0]) ?_ 3 _ rfl
  refine blk_put (cs := #[.int .i64 (a : Int), .int .i64 (b : Int), .int .i64 0, .slice none 0 0]) ?_ 2 _ rfl
  refine blk_put (cs := #[.int .i64 (a : Int), .int .i64 0, .int .i64 0, .slice none 0 0]) ?_ 1 _ rfl
  refine blk_put (cs := #[.int .i64 0, .int .i64 0, .int .i64 0, .slice none 0 0]) ?_ 0 _ rfl
  exact Kg2_6.out
  ) hu rfl (by kernel_rfl)) rfl ?_
 exact ⟨_, rfl, Kd.R_mono (Kd.R_far (Kd.R_far (Kd.R_far (Kd.R_far RR (fun k hk => hk.2) _) (fun k hk => hk.2) _) (fun k hk => hk.2) _) (fun k hk => hk.2) _) (fun _ _ => trivial), below_set (below_set (below_set (below_set HB6.out (by omega)) (by omega)) (by omega)) (by omega)⟩
set_option maxHeartbeats 4000000 in
set_option maxRecDepth 100000 in
theorem step5 (a b p : Int) (A : Option Addr) (c : Nat) (d : List Int) (kind x y wd hg : Int) (A3 : Option Addr) (c3 : Nat) (pix : List Int) (w : World) (hr0_3 : Kd.C (Kd.int .i64) w A d.length d) (hc0_3 : d.length ≤ c) (hr3 : Kd.C (Kd.int .i64) w A3 pix.length pix) (hc3 : pix.length ≤ c3) (hv1 : validI a b p d = true) (h0 : ¬ kind = 0) (h1 : ¬ kind = 1) (h2 : ¬ kind = 2) (h3 : ¬ kind = 3) (h4 : ¬ kind = 4) :
  Calls Try.prog 45 #[.agg #[.int .i64 a, .int .i64 b, .int .i64 p, .slice A d.length c], .agg #[.int .i64 kind, .int .i64 x, .int .i64 y, .int .i64 wd, .int .i64 hg, .slice A3 pix.length c3]] w fun e w' => ∃ v3_ : Value, e = .returned (.tuple #[.agg #[.int .i64 0, .int .i64 0, .int .i64 0, v3_], .bool false]) ∧ Kd.R (Kd.int .i64) 3 w' w.heap.size (fun _ => True) v3_ [] ∧ Below w.heap.size w w' := by
 have HB0 := mk (Below.refl w.heap.size w)
 have hu := Try.underlying28
 clear hr0_3 hc0_3 hr3 hc3
 have k0a : (kind == 0) = false := by simpa using h0
 have k1a : (kind == 1) = false := by simpa using h1
 have k2a : (kind == 2) = false := by simpa using h2
 have k3a : (kind == 3) = false := by simpa using h3
 have k4a : (kind == 4) = false := by simpa using h4
 clear hv1 h0 h1 h2 h3 h4
 go_enter Try.func45, Try.ntmps45
 go_wp2_with (first | ((with_reducible refine gate_dst (N := 2) rfl ?_); refine box_event (by rfl) (N := 2) (by rfl) (cs := #[.int .i64 a, .int .i64 b, .int .i64 p, .slice A d.length c]) (t := 28) (by go_simp; done) ?_; intro g1 hg_ w1 hbox hb; have HB1 := mk (below_then HB0.out HB0.out.size hb); clear hbox hb hg_) | ((with_reducible refine gate_dst (N := 3) rfl ?_); refine box_event (by rfl) (N := 3) (by rfl) (cs := #[.int .i64 kind, .int .i64 x, .int .i64 y, .int .i64 wd, .int .i64 hg, .slice A3 pix.length c3]) (t := 43) (by go_simp; done) ?_; intro g3 hg_ w2 hbox hb; have HB2 := mk (below_then HB1.out HB1.out.size hb); have Kg3_2 := mk hbox; clear hbox hb hg_) | ((with_reducible refine gate_dst (N := 4) rfl ?_); refine box_event (by rfl) (N := 4) (by rfl) (cs := #[.int .i64 0, .int .i64 0, .int .i64 0, .slice none 0 0]) (t := 28) (by go_simp; done) ?_; intro g2 hg_ w3 hbox hb; have HB3 := mk (below_then HB2.out HB2.out.size hb); have Gg2 := mk (show w.heap.size ≤ g2 from by rw [hg_]; exact HB2.out.size); have Kg3_3 := mk (blk_below Kg3_2.out hb); have Kg2_3 := mk hbox; have fg3_0 : w3.cell? ⟨g3, 0, none⟩ = some (.int .i64 kind) := (blk_cell Kg3_3.out 0).trans rfl; have fg2_0 : w3.cell? ⟨g2, 0, none⟩ = some (.int .i64 0) := (blk_cell Kg2_3.out 0).trans rfl; have fg2_1 : w3.cell? ⟨g2, 1, none⟩ = some (.int .i64 0) := (blk_cell Kg2_3.out 1).trans rfl; have fg2_2 : w3.cell? ⟨g2, 2, none⟩ = some (.int .i64 0) := (blk_cell Kg2_3.out 2).trans rfl; have fg2_3 : w3.cell? ⟨g2, 3, none⟩ = some (.slice none 0 0) := (blk_cell Kg2_3.out 3).trans rfl; have yg2_0 := blk_frozen Kg2_3.out 0; have yg2_1 := blk_frozen Kg2_3.out 1; have yg2_2 := blk_frozen Kg2_3.out 2; have yg2_3 := blk_frozen Kg2_3.out 3; clear hbox hb hg_))
 refine bodyPost_ret (results_ct rfl _ _ g2 28 #[.int .i64 0, .int .i64 0, .int .i64 0, .slice none 0 0] (0, 0) _ rfl (by
  refine blk_put (cs := #[.int .i64 0, .int .i64 0, .int .i64 0, .slice none 0 0]) ?_ 3 _ rfl
  refine blk_put (cs := #[.int .i64 0, .int .i64 0, .int .i64 0, .slice none 0 0]) ?_ 2 _ rfl
  refine blk_put (cs := #[.int .i64 0, .int .i64 0, .int .i64 0, .slice none 0 0]) ?_ 1 _ rfl
  refine blk_put (cs := #[.int .i64 0, .int .i64 0, .int .i64 0, .slice none 0 0]) ?_ 0 _ rfl
  exact Kg2_3.out
  ) hu rfl (by kernel_rfl)) rfl ?_
 have G2 := Gg2.out
 exact ⟨_, rfl, Kd.R_nil _ _ _ _ _, below_set (below_set (below_set (below_set HB3.out (by omega)) (by omega)) (by omega)) (by omega)⟩
theorem impl_doStep.calls (a b p : Int) (A : Option Addr) (c : Nat) (d : List Int) (kind x y wd hg : Int) (A3 : Option Addr) (c3 : Nat) (pix : List Int) (r1 r2 r3 : Int) (r4 : List Int) (r5 : Bool) (w : World) (hr0_3 : Kd.C (Kd.int .i64) w A d.length d) (hc0_3 : d.length ≤ c) (hr1_5 : Kd.C (Kd.int .i64) w A3 pix.length pix) (hc1_5 : pix.length ≤ c3) (h : impl_doStep.f a b p d kind x y wd hg pix = some (r1, r2, r3, r4, r5)) :
  Calls Try.prog 45 #[.agg #[.int .i64 a, .int .i64 b, .int .i64 p, .slice A d.length c], .agg #[.int .i64 kind, .int .i64 x, .int .i64 y, .int .i64 wd, .int .i64 hg, .slice A3 pix.length c3]] w fun e w' => ∃ v3_ : Value, e = .returned (.tuple #[.agg #[.int .i64 r1, .int .i64 r2, .int .i64 r3, v3_], .bool r5]) ∧ Kd.R (Kd.int .i64) 3 w' w.heap.size (fun _ => True) v3_ r4 ∧ Below w.heap.size w w' := by
 unfold impl_doStep.f at h
 by_cases hv1 : validI a b p d = true
 ·rw [if_pos hv1] at h
  have hv := Option.some.inj h
  clear h
  unfold doStepV at hv
  by_cases h0 : kind = 0
  ·subst h0
   rw [if_pos rfl] at hv
   obtain ⟨rfl, rfl, rfl, rfl, rfl⟩ : a = r1 ∧ b = r2 ∧ p = r3 ∧ imgD (mirPx a p d) a.toNat b.toNat = r4 ∧ true = r5 := by simpa using hv
   exact step0 a b p A c d x y wd hg A3 c3 pix w hr0_3 hc0_3 hr1_5 hc1_5 hv1
  rw [if_neg h0] at hv
  by_cases h1 : kind = 1
  ·subst h1
   rw [if_pos rfl] at hv
   obtain ⟨rfl, rfl, rfl, rfl, rfl⟩ : b = r1 ∧ a = r2 ∧ p = r3 ∧ imgD (turnPx a b p d) b.toNat a.toNat = r4 ∧ true = r5 := by simpa using hv
   exact step1 a b p A c d x y wd hg A3 c3 pix w hr0_3 hc0_3 hr1_5 hc1_5 hv1
  rw [if_neg h1] at hv
  by_cases h2 : kind = 2
  ·subst h2
   rw [if_pos rfl] at hv
   obtain ⟨rfl, rfl, rfl, rfl, rfl⟩ : a = r1 ∧ b = r2 ∧ p = r3 ∧ invD d = r4 ∧ true = r5 := by simpa using hv
   exact step2 a b p A c d x y wd hg A3 c3 pix w hr0_3 hc0_3 hr1_5 hc1_5 hv1
  rw [if_neg h2] at hv
  by_cases h3 : kind = 3
  ·subst h3
   rw [if_pos rfl] at hv
   cases hv2 : boxOn a b x y wd hg with
   | true =>
    rw [hv2, if_pos rfl] at hv
    obtain ⟨rfl, rfl, rfl, rfl, rfl⟩ : wd = r1 ∧ hg = r2 ∧ p = r3 ∧ imgD (cropPx a p d x.toNat y.toNat) wd.toNat hg.toNat = r4 ∧ true = r5 := by simpa using hv
    exact step3_yes a b p A c d x y wd hg A3 c3 pix w hr0_3 hc0_3 hr1_5 hc1_5 hv1 hv2
   | false =>
    rw [hv2, if_neg (by simp)] at hv
    obtain ⟨rfl, rfl, rfl, rfl, rfl⟩ : 0 = r1 ∧ 0 = r2 ∧ 0 = r3 ∧ [] = r4 ∧ false = r5 := by simpa using hv
    exact step3_no a b p A c d x y wd hg A3 c3 pix w hr0_3 hc0_3 hr1_5 hc1_5 hv1 hv2
  rw [if_neg h3] at hv
  by_cases h4 : kind = 4
  ·subst h4
   rw [if_pos rfl] at hv
   cases hv2 : boxOn a b x y wd hg with
   | false =>
    rw [hv2, if_neg (by simp)] at hv
    obtain ⟨rfl, rfl, rfl, rfl, rfl⟩ : 0 = r1 ∧ 0 = r2 ∧ 0 = r3 ∧ [] = r4 ∧ false = r5 := by simpa using hv
    exact step4_no1 a b p A c d x y wd hg A3 c3 pix w hr0_3 hc0_3 hr1_5 hc1_5 hv1 hv2
   | true =>
    by_cases hv3 : (pix.length : Int) = p
    ·cases hv4 : pix.all byteI with
     | false =>
      rw [hv2, hv4, if_neg (by simp)] at hv
      obtain ⟨rfl, rfl, rfl, rfl, rfl⟩ : 0 = r1 ∧ 0 = r2 ∧ 0 = r3 ∧ [] = r4 ∧ false = r5 := by simpa using hv
      subst hv3
      exact step4_no3 a b A c d x y wd hg A3 c3 pix w hr0_3 hc0_3 hr1_5 hc1_5 hv1 hv2 hv4
     | true =>
      rw [hv2, hv4, if_pos ⟨rfl, hv3, rfl⟩] at hv
      have hs := ((validI_iff a b p d).1 hv1).1
      have hbx := (boxOn_iff a b x y wd hg).1 hv2
      subst hv3
      obtain ⟨an, rfl⟩ := Int.eq_ofNat_of_zero_le (show 0 ≤ a by omega)
      obtain ⟨bn, rfl⟩ := Int.eq_ofNat_of_zero_le (show 0 ≤ b by omega)
      obtain ⟨xn, rfl⟩ := Int.eq_ofNat_of_zero_le (show 0 ≤ x by omega)
      obtain ⟨yn, rfl⟩ := Int.eq_ofNat_of_zero_le (show 0 ≤ y by omega)
      obtain ⟨wn, rfl⟩ := Int.eq_ofNat_of_zero_le (show 0 ≤ wd by omega)
      obtain ⟨hn, rfl⟩ := Int.eq_ofNat_of_zero_le (show 0 ≤ hg by omega)
      obtain ⟨rfl, rfl, rfl, rfl, rfl⟩ : (an : Int) = r1 ∧ (bn : Int) = r2 ∧ (pix.length : Int) = r3 ∧ imgD (fillPx an (pix.length : Int) d xn yn wn hn pix) an bn = r4 ∧ true = r5 := by simpa using hv
      exact step4_yes an bn A c d xn yn wn hn A3 c3 pix w hr0_3 hc0_3 hr1_5 hc1_5 hv1 hv2 hv4
    rw [if_neg (fun h => hv3 h.2.1)] at hv
    obtain ⟨rfl, rfl, rfl, rfl, rfl⟩ : 0 = r1 ∧ 0 = r2 ∧ 0 = r3 ∧ [] = r4 ∧ false = r5 := by simpa using hv
    exact step4_no2 a b p A c d x y wd hg A3 c3 pix w hr0_3 hc0_3 hr1_5 hc1_5 hv1 hv2 hv3
  rw [if_neg h4] at hv
  obtain ⟨rfl, rfl, rfl, rfl, rfl⟩ : 0 = r1 ∧ 0 = r2 ∧ 0 = r3 ∧ [] = r4 ∧ false = r5 := by simpa using hv
  exact step5 a b p A c d kind x y wd hg A3 c3 pix w hr0_3 hc0_3 hr1_5 hc1_5 hv1 h0 h1 h2 h3 h4
 rw [if_neg hv1] at h; cases h
end Go.Proofs.Ytgccpcnakkioiaa.Q

namespace Go.Proofs.Ytgccpcnakkioiaa.Q
open Go.RowKit Go.Proofs.YtgccpcnakkioiaaW.PrintWords Go.Proofs.YtgccpcnakkioiaaW.PrintLast Go.Proofs.YtgccpcnakkioiaaW.PrintMore
open Go.Proofs.YtgccpcnakkioiaaW.PrintWords.Aside0 (mk)
attribute [local go_sem] max2_int min2_int max_two min_two max_three min_three max_four min_four
set_option linter.unusedVariables false
set_option linter.unusedSimpArgs false
mutual
def impl_RunSteps.j0 : Nat → List S43 → Bool → Int → Int → Int → List Int → Option (Int × Int × Int × List Int × Int)
 | 0, _, _, _, _, _, _ => none
 | k + 1, x1, x18, xz11, xz12, xz13, xz14 => if x18 = true then (some (0, 0, 0, ([] : List Int), (-1))) else ((impl_copyImage.f xz11 xz12 xz13 xz14).bind fun btz0 => (impl_RunSteps.l0 k x1 x1 (x1.length : Int) 0 btz0.1 btz0.2.1 btz0.2.2.1 btz0.2.2.2))
def impl_RunSteps.l0 : Nat → List S43 → List S43 → Int → Int → Int → Int → Int → List Int → Option (Int × Int × Int × List Int × Int)
 | 0, _, _, _, _, _, _, _, _ => none
 | k + 1, x1, x22, x23, x24, xz7, xz8, xz9, xz10 => if x24 < x23 then (if 0 ≤ x24 then (if x24 < (x22.length : Int) then ((impl_doStep.f xz7 xz8 xz9 xz10 ((rd_T43 x22 x24).f0) ((rd_T43 x22 x24).f1.f0) ((rd_T43 x22 x24).f1.f1) ((rd_T43 x22 x24).f1.f2) ((rd_T43 x22 x24).f1.f3) ((rd_T43 x22 x24).f2)).bind fun btz1 => (if btz1.2.2.2.2 = true then (impl_RunSteps.l0 k x1 x22 x23 (wrap64 (x24 + 1)) btz1.1 btz1.2.1 btz1.2.2.1 btz1.2.2.2.1) else (some (xz7, xz8, xz9, xz10, x24)))) else none) else none) else (some (xz7, xz8, xz9, xz10, (x1.length : Int)))
end
def impl_RunSteps.f (k : Nat) (a0_0 : Int) (a0_1 : Int) (a0_2 : Int) (l0_3 : List Int) (l1 : List S43) : Option (Int × Int × Int × List Int × Int) := (impl_isImage.f a0_0 a0_1 a0_2 l0_3).bind fun tz5 => (if tz5 = true then (impl_RunSteps.j0 k l1 (decide ((l1.length : Int) > 12)) a0_0 a0_1 a0_2 l0_3) else (impl_RunSteps.j0 k l1 true a0_0 a0_1 a0_2 l0_3))
theorem impl_RunSteps.mono_l : ∀ k, (∀ y0 y1 y2 y3 y4 y5, LeO (impl_RunSteps.j0 k y0 y1 y2 y3 y4 y5) (impl_RunSteps.j0 (k + 1) y0 y1 y2 y3 y4 y5)) ∧ (∀ y0 y1 y2 y3 y4 y5 y6 y7, LeO (impl_RunSteps.l0 k y0 y1 y2 y3 y4 y5 y6 y7) (impl_RunSteps.l0 (k + 1) y0 y1 y2 y3 y4 y5 y6 y7))
 | 0 => ⟨fun _ _ _ _ _ _ r h => by simp [impl_RunSteps.j0] at h, fun _ _ _ _ _ _ _ _ r h => by simp [impl_RunSteps.l0] at h⟩
 | k + 1 => by
  obtain ⟨ih0, ih1⟩ := impl_RunSteps.mono_l k
  refine ⟨?_, ?_⟩
  ·intro y0 y1 y2 y3 y4 y5
   unfold impl_RunSteps.j0
   repeat' first | (with_reducible exact ih1 _ _ _ _ _ _ _ _) | (with_reducible exact LeO.refl _) | (with_reducible refine LeO.ite ?_ ?_) | (with_reducible refine LeO.bind ?_ (fun _ => ?_))
  intro y0 y1 y2 y3 y4 y5 y6 y7
  unfold impl_RunSteps.l0
  repeat' first | (with_reducible exact ih1 _ _ _ _ _ _ _ _) | (with_reducible exact LeO.refl _) | (with_reducible refine LeO.ite ?_ ?_) | (with_reducible refine LeO.bind ?_ (fun _ => ?_))
theorem impl_RunSteps.mono : ∀ a0 a1 a2 a3 a4 k, LeO (impl_RunSteps.f k a0 a1 a2 a3 a4) (impl_RunSteps.f (k + 1) a0 a1 a2 a3 a4) := by
 intro a0 a1 a2 a3 a4 k
 obtain ⟨ih0, ih1⟩ := impl_RunSteps.mono_l k
 unfold impl_RunSteps.f
 repeat' first | (with_reducible exact ih0 _ _ _ _ _ _) | (with_reducible exact LeO.refl _) | (with_reducible refine LeO.ite ?_ ?_) | (with_reducible refine LeO.bind ?_ (fun _ => ?_))
set_option maxHeartbeats 8000000 in
set_option maxRecDepth 100000 in
theorem impl_RunSteps.calls (k : Nat) (a0_0 : Int) (a0_1 : Int) (a0_2 : Int) (A0_3 : Option Addr) (c0_3 : Nat) (l0_3 : List Int) (A1 : Option Addr) (c1 : Nat) (l1 : List S43) (r1 : Int) (r2 : Int) (r3 : Int) (r4 : List Int) (r5 : Int) (w : World) (hr0_3 : Kd.C (Kd.int .i64) w A0_3 l0_3.length l0_3) (hc0_3 : l0_3.length ≤ c0_3) (hr1 : Kd.C k43 w A1 l1.length l1) (hc1 : l1.length ≤ c1) (h : impl_RunSteps.f k a0_0 a0_1 a0_2 l0_3 l1 = some (r1, r2, r3, r4, r5)) :
  Calls Try.prog 15 #[.agg #[.int .i64 a0_0, .int .i64 a0_1, .int .i64 a0_2, .slice A0_3 l0_3.length c0_3], .slice A1 l1.length c1] w fun e w' => ∃ v3_ : Value, e = .returned (.tuple #[.agg #[.int .i64 r1, .int .i64 r2, .int .i64 r3, v3_], .int .i64 r5]) ∧ Kd.R (Kd.int .i64) 3 w' w.heap.size (fun _ => True) v3_ r4 ∧ Below w.heap.size w w' := by
 have hu28 := Try.underlying28
 have hu43 := Try.underlying43
 have HR0_3 := mk hr0_3
 have HC0_3 := mk hc0_3
 clear hr0_3 hc0_3
 have HR1 := mk hr1
 have HC1 := mk hc1
 clear hr1 hc1
 have HB := mk (Below.refl w.heap.size w)
 have H : ((impl_isImage.f a0_0 a0_1 a0_2 l0_3).bind fun tz5 => (if tz5 = true then (impl_RunSteps.j0 k l1 (decide ((l1.length : Int) > 12)) a0_0 a0_1 a0_2 l0_3) else (impl_RunSteps.j0 k l1 true a0_0 a0_1 a0_2 l0_3))) = some (r1, r2, r3, r4, r5) := h
 clear h
 have HC3 := mk H
 clear H
 go_enter Try.func15, Try.ntmps15
 go_upto_region 1 with (first | ((with_reducible refine gate_dst (N := 2) rfl ?_); (try (refine gate_guard (by rfl) ?_; dsimp only)); refine box_event (by rfl) (N := 2) (by rfl) (cs := #[.int .i64 a0_0, .int .i64 a0_1, .int .i64 a0_2, .slice A0_3 l0_3.length c0_3]) (t := 28) (by go_simp; done) ?_; intro gbz4 hg w4 hbox hb; replace HB := mk (below_step HB.out hb); have BKz2 := mk (hbox); clear hb hbox hg) | ((with_reducible refine gate_dst (N := 4) rfl ?_); (try (refine gate_guard (by rfl) ?_; dsimp only)); refine box_event (by rfl) (N := 4) (by rfl) (cs := #[.int .i64 0, .int .i64 0, .int .i64 0, .slice none 0 0]) (t := 28) (by go_simp; done) ?_; intro gbz2 hg w5 hbox hb; have BKz0 := mk (hbox); have GEz1 := mk ((by rw [hg]; exact (below_size HB.out) : w.heap.size ≤ gbz2)); replace HB := mk (below_step HB.out hb); have NBz12 := mk ((by rw [hg]; exact Nat.ne_of_lt (blk_lt BKz2.out) : gbz4 ≠ gbz2)); have NBz13 := mk ((by rw [hg]; exact Nat.ne_of_gt (blk_lt BKz2.out) : gbz2 ≠ gbz4)); replace BKz2 := mk (blk_below BKz2.out hb); clear hb hbox hg))
 go_cut [18] (fun v18 wc => ∃ (kq : Nat) (x18_2 : Bool), v18 = .bool x18_2 ∧ Aside0 (impl_RunSteps.j0 kq l1 x18_2 a0_0 a0_1 a0_2 l0_3 = some (r1, r2, r3, r4, r5)) ∧ Aside0 (kq ≤ k) ∧ Aside0 (wc.heap[gbz4]? = some (.cells #[.int .i64 a0_0, .int .i64 a0_1, .int .i64 a0_2, (.slice A0_3 l0_3.length c0_3)] 28 (0, 0))) ∧ Aside0 (wc.heap[gbz2]? = some (.cells #[.int .i64 0, .int .i64 0, .int .i64 0, (.slice none 0 0)] 28 (0, 0))) ∧ Aside0 (Below w.heap.size w wc))
 case first =>
  have H := HC3.out
  clear HC3
  replace H := Option.bind_eq_some_iff.mp H
  obtain ⟨tz5, A60, H⟩ := H
  replace H : (if tz5 = true then (impl_RunSteps.j0 k l1 (decide ((l1.length : Int) > 12)) a0_0 a0_1 a0_2 l0_3) else (impl_RunSteps.j0 k l1 true a0_0 a0_1 a0_2 l0_3)) = some (r1, r2, r3, r4, r5) := H
  have A6 := mk A60
  clear A60
  by_cases c7 : tz5 = true
  ·subst c7
   have H1 : (impl_RunSteps.j0 k l1 (decide ((l1.length : Int) > 12)) a0_0 a0_1 a0_2 l0_3) = some (r1, r2, r3, r4, r5) := by rw [if_pos rfl] at H; exact H
   clear H
   have H := H1
   clear H1
   have H' := mk H
   clear H
   obtain ⟨hcz9_0, hcz9_1, hcz9_2, hcz9_3, -⟩ := c4 BKz2.out
   go_wp2_with (first | ((with_reducible refine gate_callee (f := 43) rfl ?_); refine goesL_ (some 12) rfl rfl Try.func43 (by kernel_rfl) rfl #[.agg #[.int .i64 a0_0, .int .i64 a0_1, .int .i64 a0_2, .slice A0_3 l0_3.length c0_3]] rfl (by (try simp only [List.map_toArray, List.map_cons, List.map_nil]); rfl) ?_; (with_reducible refine (impl_isImage.calls a0_0 a0_1 a0_2 _ _ l0_3 true _ ?side1 ?side2 A6.out).mono ?_); (case side1 => repeat (exact (Kd.C_below HR0_3.out HB.out))); (case side2 => exact HC0_3.out); rintro e w10 ⟨rfl, hb⟩; refine ⟨_, rfl, ?_⟩; replace BKz2 := mk (blk_below BKz2.out hb); replace BKz0 := mk (blk_below BKz0.out hb); replace HB := mk (below_step HB.out hb); (try clear hb)))
   go_meet
   case rel => exact ⟨_, (decide ((l1.length : Int) > 12)), (by rfl), H', ⟨by omega⟩, BKz2, BKz0, HB⟩
  replace c7 := Bool.eq_false_iff.mpr c7
  subst c7
  have H1 : (impl_RunSteps.j0 k l1 true a0_0 a0_1 a0_2 l0_3) = some (r1, r2, r3, r4, r5) := by rw [if_neg (show ¬ (false = true) by decide)] at H; exact H
  clear H
  have H := H1
  clear H1
  have H' := mk H
  clear H
  obtain ⟨hcz12_0, hcz12_1, hcz12_2, hcz12_3, -⟩ := c4 BKz2.out
  go_wp2_with (first | ((with_reducible refine gate_callee (f := 43) rfl ?_); refine goesL_ (some 12) rfl rfl Try.func43 (by kernel_rfl) rfl #[.agg #[.int .i64 a0_0, .int .i64 a0_1, .int .i64 a0_2, .slice A0_3 l0_3.length c0_3]] rfl (by (try simp only [List.map_toArray, List.map_cons, List.map_nil]); rfl) ?_; (with_reducible refine (impl_isImage.calls a0_0 a0_1 a0_2 _ _ l0_3 false _ ?side1 ?side2 A6.out).mono ?_); (case side1 => repeat (exact (Kd.C_below HR0_3.out HB.out))); (case side2 => exact HC0_3.out); rintro e w13 ⟨rfl, hb⟩; refine ⟨_, rfl, ?_⟩; replace BKz2 := mk (blk_below BKz2.out hb); replace BKz0 := mk (blk_below BKz0.out hb); replace HB := mk (below_step HB.out hb); (try clear hb)))
  go_meet
  case rel => exact ⟨_, (true), (by rfl), H', ⟨by omega⟩, BKz2, BKz0, HB⟩
 case rest =>
  clear HC3
  obtain ⟨kq, x18_2, rfl, HA, HJ2, BKz2, BKz0, HB⟩ := hcut
  cases kq with
  | zero => exact absurd HA.out (by simp [impl_RunSteps.j0])
  | succ kj2 =>
   have H := HA.out
   clear HA
   simp only [impl_RunSteps.j0] at H
   by_cases c14 : x18_2 = true
   ·subst c14
    have H1 : (some (0, 0, 0, ([] : List Int), (-1))) = some (r1, r2, r3, r4, r5) := by rw [if_pos rfl] at H; exact H
    clear H
    have H := H1
    clear H1
    simp only [Option.some.injEq, Prod.mk.injEq] at H
    obtain ⟨rfl, rfl, rfl, rfl, rfl⟩ := H
    obtain ⟨hcz16_0, hcz16_1, hcz16_2, hcz16_3, hfz16_0, hfz16_1, hfz16_2, hfz16_3⟩ := c4 BKz0.out
    go_wp2
    refine bodyPost_ret (results_ct rfl _ _ gbz2 28 #[.int .i64 0, .int .i64 0, .int .i64 0, .slice none 0 0] (0, 0) _ rfl (by refine blk_put (cs := #[.int .i64 0, .int .i64 0, .int .i64 0, .slice none 0 0]) ?_ 3 _ rfl; refine blk_put (cs := #[.int .i64 0, .int .i64 0, .int .i64 0, .slice none 0 0]) ?_ 2 _ rfl; refine blk_put (cs := #[.int .i64 0, .int .i64 0, .int .i64 0, .slice none 0 0]) ?_ 1 _ rfl; refine blk_put (cs := #[.int .i64 0, .int .i64 0, .int .i64 0, .slice none 0 0]) ?_ 0 _ rfl; exact BKz0.out) Try.underlying28 rfl (by kernel_rfl)) rfl ?_
    exact ⟨_, by rfl, by exact Kd.R_nil _ _ _ _ _, by repeat (with_reducible first | exact HB.out | refine below_set ?_ GEz1.out)⟩
   replace c14 := Bool.eq_false_iff.mpr c14
   subst c14
   have H1 : ((impl_copyImage.f a0_0 a0_1 a0_2 l0_3).bind fun btz0 => (impl_RunSteps.l0 kj2 l1 l1 (l1.length : Int) 0 btz0.1 btz0.2.1 btz0.2.2.1 btz0.2.2.2)) = some (r1, r2, r3, r4, r5) := by rw [if_neg (show ¬ (false = true) by decide)] at H; exact H
   clear H
   have H := H1
   clear H1
   replace H := Option.bind_eq_some_iff.mp H
   obtain ⟨⟨tz4, tz6, tz7, tz8⟩, A170, H⟩ := H
   replace H : (impl_RunSteps.l0 kj2 l1 l1 (l1.length : Int) 0 tz4 tz6 tz7 tz8) = some (r1, r2, r3, r4, r5) := H
   have A17 := mk A170
   clear A170
   have H' := mk H
   clear H
   obtain ⟨hcz19_0, hcz19_1, hcz19_2, hcz19_3, hfz19_0, hfz19_1, hfz19_2, hfz19_3⟩ := c4 BKz2.out
   go_wp2_with (first | ((with_reducible refine gate_callee (f := 44) rfl ?_); refine goesL_ (some 21) rfl rfl Try.func44 (by kernel_rfl) rfl #[.agg #[.int .i64 a0_0, .int .i64 a0_1, .int .i64 a0_2, .slice A0_3 l0_3.length c0_3]] rfl (by (try simp only [List.map_toArray, List.map_cons, List.map_nil]); rfl) ?_; (with_reducible refine (impl_copyImage.calls a0_0 a0_1 a0_2 _ _ l0_3 tz4 tz6 tz7 tz8 _ ?side1 ?side2 A17.out).mono ?_); (case side1 => repeat (exact (Kd.C_below HR0_3.out HB.out))); (case side2 => exact HC0_3.out); rintro e w20 ⟨vz1, rfl, ho0, hb⟩; refine ⟨_, rfl, ?_⟩; have HOz2 := mk (Kd.R_lower ho0 (below_size HB.out)); replace BKz2 := mk (blk_below BKz2.out hb); replace BKz0 := mk (blk_below BKz0.out hb); replace HB := mk (below_step HB.out hb); (try clear hb); (try clear ho0)) | ((with_reducible refine gate_dst (N := 6) rfl ?_); (try (refine gate_guard (by rfl) ?_; dsimp only)); refine box_event (by rfl) (N := 6) (by rfl) (cs := #[.int .i64 0, .int .i64 0, .int .i64 0, .slice none 0 0]) (t := 28) (by go_simp; done) ?_; intro gbz1 hg w21 hbox hb; replace HOz2 := mk (Kd.R_below HOz2.out hb); have BKz1 := mk (hbox); have GEz3 := mk ((by rw [hg]; exact (below_size HB.out) : w.heap.size ≤ gbz1)); replace HB := mk (below_step HB.out hb); have NBz3 := mk ((by rw [hg]; exact Nat.ne_of_lt (blk_lt BKz2.out) : gbz4 ≠ gbz1)); have NBz10 := mk ((by rw [hg]; exact Nat.ne_of_gt (blk_lt BKz2.out) : gbz1 ≠ gbz4)); replace BKz2 := mk (blk_below BKz2.out hb); have NBz4 := mk ((by rw [hg]; exact Nat.ne_of_lt (blk_lt BKz0.out) : gbz2 ≠ gbz1)); have NBz11 := mk ((by rw [hg]; exact Nat.ne_of_gt (blk_lt BKz0.out) : gbz1 ≠ gbz2)); replace BKz0 := mk (blk_below BKz0.out hb); clear hb hbox hg; obtain ⟨hcz24_0, hcz24_1, hcz24_2, hcz24_3, hfz24_0, hfz24_1, hfz24_2, hfz24_3⟩ := c4 BKz1.out; obtain ⟨Ao25, co25, eo25⟩ := Kd.R_slice HOz2.out; subst eo25))
   go_loopg [24] kj2 (fun kq v24 w' => ∃ (x24_2 : Int) (xz6 : Int) (xz5 : Int) (xz4 : Int) (xz0 : Int) (xz1 : Int) (xz2 : Int) (xz3 : List Int) (u16011003 : Value), v24 = .int .i64 x24_2 ∧ Aside0 (impl_RunSteps.l0 kq l1 l1 (l1.length : Int) x24_2 xz0 xz1 xz2 xz3 = some (r1, r2, r3, r4, r5)) ∧ Aside0 (kq ≤ kj2) ∧ Aside0 (Kd.R (Kd.int .i64) 3 w' w.heap.size (fun _ => True) u16011003 xz3) ∧ Aside0 (w'.heap[gbz4]? = some (.cells #[.int .i64 a0_0, .int .i64 a0_1, .int .i64 a0_2, (.slice A0_3 l0_3.length c0_3)] 28 (0, 0))) ∧ Aside0 (w'.heap[gbz2]? = some (.cells #[.int .i64 xz6, .int .i64 xz5, .int .i64 xz4, (.slice none 0 0)] 28 (0, 0))) ∧ Aside0 (w'.heap[gbz1]? = some (.cells #[.int .i64 xz0, .int .i64 xz1, .int .i64 xz2, u16011003] 28 (0, 0))) ∧ Aside0 (Below w.heap.size w w'))
   case atStart => exact ⟨(0), (0), (0), (0), (tz4), (tz6), (tz7), (tz8), (.slice Ao25 tz8.length co25), (by rfl), H', ⟨Nat.le_refl _⟩, ⟨by exact Kd.R_mono (Kd.R_far (p := ⟨gbz1, 3, none⟩) (Kd.R_far (p := ⟨gbz1, 2, none⟩) (Kd.R_far (p := ⟨gbz1, 1, none⟩) (Kd.R_far (p := ⟨gbz1, 0, none⟩) (Kd.R_types HOz2.out BKz1.out (by decide)) (fun _ hk => hk.2) (.int .i64 tz4)) (fun _ hk => hk.2) (.int .i64 tz6)) (fun _ hk => hk.2) (.int .i64 tz7)) (fun _ hk => hk.2) (.slice Ao25 tz8.length co25)) (fun _ hk => trivial)⟩, ⟨by refine blk_far ?_ NBz3.out _; refine blk_far ?_ NBz3.out _; refine blk_far ?_ NBz3.out _; refine blk_far ?_ NBz3.out _; exact BKz2.out⟩, ⟨by refine blk_far ?_ NBz4.out _; refine blk_far ?_ NBz4.out _; refine blk_far ?_ NBz4.out _; refine blk_far ?_ NBz4.out _; exact BKz0.out⟩, ⟨by refine blk_put (cs := #[.int .i64 tz4, .int .i64 tz6, .int .i64 tz7, .slice none 0 0]) ?_ 3 _ rfl; refine blk_put (cs := #[.int .i64 tz4, .int .i64 tz6, .int .i64 0, .slice none 0 0]) ?_ 2 _ rfl; refine blk_put (cs := #[.int .i64 tz4, .int .i64 0, .int .i64 0, .slice none 0 0]) ?_ 1 _ rfl; refine blk_put (cs := #[.int .i64 0, .int .i64 0, .int .i64 0, .slice none 0 0]) ?_ 0 _ rfl; exact BKz1.out⟩, ⟨by repeat (with_reducible first | exact HB.out | refine below_set ?_ GEz3.out)⟩⟩
   case round =>
    clear H'
    obtain ⟨x24_2, xz6, xz5, xz4, xz0, xz1, xz2, xz3, u16011003, rfl, HA, HK2, HOz0, BKz2, BKz0, BKz1, HB⟩ := hrel
    cases gk with
    | zero => exact absurd HA.out (by simp [impl_RunSteps.l0])
    | succ k2 =>
     have H := HA.out
     clear HA
     simp only [impl_RunSteps.l0] at H
     by_cases c26 : x24_2 < (l1.length : Int)
     ·rw [if_pos c26] at H
      have c26b0 : decide (x24_2 < (l1.length : Int)) = true := decide_eq_true c26
      clear c26
      by_cases c27 : 0 ≤ x24_2
      ·rw [if_pos c27] at H
       have c27b0 : decide (0 ≤ x24_2) = true := decide_eq_true c27
       clear c27
       by_cases c28 : x24_2 < (l1.length : Int)
       ·rw [if_pos c28] at H
        have c28b0 : decide (x24_2 < (l1.length : Int)) = true := decide_eq_true c28
        clear c28
        replace H := Option.bind_eq_some_iff.mp H
        obtain ⟨⟨tz0, tz1, tz2, tz3, tz9⟩, A290, H⟩ := H
        replace H : (if tz9 = true then (impl_RunSteps.l0 k2 l1 l1 (l1.length : Int) (wrap64 (x24_2 + 1)) tz0 tz1 tz2 tz3) else (some (xz0, xz1, xz2, xz3, x24_2))) = some (r1, r2, r3, r4, r5) := H
        have A29 := mk A290
        clear A290
        by_cases c30 : tz9 = true
        ·subst c30
         have H1 : (impl_RunSteps.l0 k2 l1 l1 (l1.length : Int) (wrap64 (x24_2 + 1)) tz0 tz1 tz2 tz3) = some (r1, r2, r3, r4, r5) := by rw [if_pos rfl] at H; exact H
         clear H
         have H := H1
         clear H1
         have H' := mk H
         clear H
         have p16011 : 0 ≤ (x24_2 : Int) := of_decide_eq_true (by (with_reducible assumption))
         have q16011 : x24_2 < (l1.length : Int) := of_decide_eq_true (by (with_reducible assumption))
         obtain ⟨ad16011, Az0, cz0, e16011, hx16011_0, hx16011_1, hx16011_2, hx16011_3, hx16011_4, hx16011_5, hl16011_5, hi16011_5⟩ := at_T43 HR1.out x24_2 p16011 q16011
         cases e16011
         replace hx16011_0 := bc HB.out hx16011_0
         replace hx16011_1 := bc HB.out hx16011_1
         replace hx16011_2 := bc HB.out hx16011_2
         replace hx16011_3 := bc HB.out hx16011_3
         replace hx16011_4 := bc HB.out hx16011_4
         replace hx16011_5 := bc HB.out hx16011_5
         have HR16011_5 := mk hi16011_5
         have HC16011_5 := mk hl16011_5
         clear hi16011_5 hl16011_5
         replace p16011 := eq_true p16011
         replace q16011 := eq_true q16011
         go_wp2_with (first | ((with_reducible refine gate_dst (N := 8) rfl ?_); (try (refine gate_guard (by rfl) ?_; dsimp only)); refine box_event (by rfl) (N := 8) (by rfl) (cs := #[.int .i64 0, .int .i64 0, .int .i64 0, .int .i64 0, .int .i64 0, .slice none 0 0]) (t := 43) (by go_simp; done) ?_; intro gbz0 hg w31 hbox hb; replace HOz0 := mk (Kd.R_below HOz0.out hb); have BKz3 := mk (hbox); have GEz0 := mk ((by rw [hg]; exact (below_size HB.out) : w.heap.size ≤ gbz0)); replace HB := mk (below_step HB.out hb); have NBz1 := mk ((by rw [hg]; exact Nat.ne_of_lt (blk_lt BKz2.out) : gbz4 ≠ gbz0)); replace BKz2 := mk (blk_below BKz2.out hb); have NBz2 := mk ((by rw [hg]; exact Nat.ne_of_lt (blk_lt BKz0.out) : gbz2 ≠ gbz0)); replace BKz0 := mk (blk_below BKz0.out hb); have NBz0 := mk ((by rw [hg]; exact Nat.ne_of_lt (blk_lt BKz1.out) : gbz1 ≠ gbz0)); replace BKz1 := mk (blk_below BKz1.out hb); clear hb hbox hg; have hnc34 := NBz0.out; obtain ⟨hcz35_0, hcz35_1, hcz35_2, hcz35_3, hcz35_4, hcz35_5, hfz35_0, hfz35_1, hfz35_2, hfz35_3, hfz35_4, hfz35_5⟩ := c6 BKz3.out; have hnb36 := NBz10.out; have hnc36 := NBz3.out; have hnb37 := NBz11.out; have hnc37 := NBz4.out; obtain ⟨hcz38_0, hcz38_1, hcz38_2, -⟩ := c4 BKz1.out; have hcz38_3 : w31.cell? ⟨gbz1, 3, none⟩ = some u16011003 := (blk_cell BKz1.out 3).trans rfl; obtain ⟨Ao39, co39, eo39⟩ := Kd.R_slice HOz0.out; subst eo39) | ((with_reducible refine gate_callee (f := 45) rfl ?_); refine goesL_ (some 32) rfl rfl Try.func45 (by kernel_rfl) rfl #[.agg #[.int .i64 xz0, .int .i64 xz1, .int .i64 xz2, .slice Ao39 xz3.length co39], .agg #[.int .i64 ((rd_T43 l1 x24_2).f0), .int .i64 ((rd_T43 l1 x24_2).f1.f0), .int .i64 ((rd_T43 l1 x24_2).f1.f1), .int .i64 ((rd_T43 l1 x24_2).f1.f2), .int .i64 ((rd_T43 l1 x24_2).f1.f3), .slice Az0 ((rd_T43 l1 x24_2).f2).length cz0]] rfl (by (try simp only [List.map_toArray, List.map_cons, List.map_nil]); rfl) ?_; (with_reducible refine (impl_doStep.calls xz0 xz1 xz2 _ _ xz3 ((rd_T43 l1 x24_2).f0) ((rd_T43 l1 x24_2).f1.f0) ((rd_T43 l1 x24_2).f1.f1) ((rd_T43 l1 x24_2).f1.f2) ((rd_T43 l1 x24_2).f1.f3) _ _ ((rd_T43 l1 x24_2).f2) tz0 tz1 tz2 tz3 true _ ?side1 ?side2 ?side3 ?side4 A29.out).mono ?_); (case side1 => refine (Kd.R_reads' (e := 3) (base := w.heap.size) (ok := fun k_ => True) (n := xz3.length) (c := co39) ?_).2.2; exact (by exact (Kd.R_mono (Kd.R_far (p := ⟨gbz0, 5, none⟩) (Kd.R_far (p := ⟨gbz0, 4, none⟩) (Kd.R_far (p := ⟨gbz0, 3, none⟩) (Kd.R_far (p := ⟨gbz0, 2, none⟩) (Kd.R_far (p := ⟨gbz0, 1, none⟩) (Kd.R_far (p := ⟨gbz0, 0, none⟩) (Kd.R_types HOz0.out BKz3.out (by decide)) (fun _ hk => hk.2) (.int .i64 ((rd_T43 l1 x24_2).f0))) (fun _ hk => hk.2) (.int .i64 ((rd_T43 l1 x24_2).f1.f0))) (fun _ hk => hk.2) (.int .i64 ((rd_T43 l1 x24_2).f1.f1))) (fun _ hk => hk.2) (.int .i64 ((rd_T43 l1 x24_2).f1.f2))) (fun _ hk => hk.2) (.int .i64 ((rd_T43 l1 x24_2).f1.f3))) (fun _ hk => hk.2) (.slice Az0 ((rd_T43 l1 x24_2).f2).length cz0)) (fun _ h_ => h_.1)))); (case side2 => exact (Kd.R_reads' HOz0.out).2.1); (case side3 => exact Kd.C_below HR16011_5.out (by repeat (with_reducible first | exact HB.out | refine below_set ?_ GEz0.out))); (case side4 => exact HC16011_5.out); rintro e w40 ⟨vz0, rfl, ho0, hb⟩; refine ⟨_, rfl, ?_⟩; have HOz1 := mk (Kd.R_lower (Kd.R_new' ho0 (Kd.R_lt (by exact (Kd.R_mono (Kd.R_far (p := ⟨gbz0, 5, none⟩) (Kd.R_far (p := ⟨gbz0, 4, none⟩) (Kd.R_far (p := ⟨gbz0, 3, none⟩) (Kd.R_far (p := ⟨gbz0, 2, none⟩) (Kd.R_far (p := ⟨gbz0, 1, none⟩) (Kd.R_far (p := ⟨gbz0, 0, none⟩) (Kd.R_types HOz0.out BKz3.out (by decide)) (fun _ hk => hk.2) (.int .i64 ((rd_T43 l1 x24_2).f0))) (fun _ hk => hk.2) (.int .i64 ((rd_T43 l1 x24_2).f1.f0))) (fun _ hk => hk.2) (.int .i64 ((rd_T43 l1 x24_2).f1.f1))) (fun _ hk => hk.2) (.int .i64 ((rd_T43 l1 x24_2).f1.f2))) (fun _ hk => hk.2) (.int .i64 ((rd_T43 l1 x24_2).f1.f3))) (fun _ hk => hk.2) (.slice Az0 ((rd_T43 l1 x24_2).f2).length cz0)) (fun _ h_ => h_.1))))) (below_size (by repeat (with_reducible first | exact HB.out | refine below_set ?_ GEz0.out)))); replace HOz0 := mk (Kd.R_elder' (by exact (Kd.R_mono (Kd.R_far (p := ⟨gbz0, 5, none⟩) (Kd.R_far (p := ⟨gbz0, 4, none⟩) (Kd.R_far (p := ⟨gbz0, 3, none⟩) (Kd.R_far (p := ⟨gbz0, 2, none⟩) (Kd.R_far (p := ⟨gbz0, 1, none⟩) (Kd.R_far (p := ⟨gbz0, 0, none⟩) (Kd.R_types HOz0.out BKz3.out (by decide)) (fun _ hk => hk.2) (.int .i64 ((rd_T43 l1 x24_2).f0))) (fun _ hk => hk.2) (.int .i64 ((rd_T43 l1 x24_2).f1.f0))) (fun _ hk => hk.2) (.int .i64 ((rd_T43 l1 x24_2).f1.f1))) (fun _ hk => hk.2) (.int .i64 ((rd_T43 l1 x24_2).f1.f2))) (fun _ hk => hk.2) (.int .i64 ((rd_T43 l1 x24_2).f1.f3))) (fun _ hk => hk.2) (.slice Az0 ((rd_T43 l1 x24_2).f2).length cz0)) (fun _ h_ => h_.1))) (Kd.R_base ho0) hb); replace BKz2 := mk (blk_below (g := gbz4) (o := .cells #[.int .i64 a0_0, .int .i64 a0_1, .int .i64 a0_2, .slice A0_3 l0_3.length c0_3] 28 (0, 0)) (by refine blk_far ?_ NBz1.out _; refine blk_far ?_ NBz1.out _; refine blk_far ?_ NBz1.out _; refine blk_far ?_ NBz1.out _; refine blk_far ?_ NBz1.out _; refine blk_far ?_ NBz1.out _; exact BKz2.out) hb); replace BKz0 := mk (blk_below (g := gbz2) (o := .cells #[.int .i64 xz6, .int .i64 xz5, .int .i64 xz4, .slice none 0 0] 28 (0, 0)) (by refine blk_far ?_ NBz2.out _; refine blk_far ?_ NBz2.out _; refine blk_far ?_ NBz2.out _; refine blk_far ?_ NBz2.out _; refine blk_far ?_ NBz2.out _; refine blk_far ?_ NBz2.out _; exact BKz0.out) hb); replace BKz1 := mk (blk_below (g := gbz1) (o := .cells #[.int .i64 xz0, .int .i64 xz1, .int .i64 xz2, .slice Ao39 xz3.length co39] 28 (0, 0)) (by refine blk_far ?_ NBz0.out _; refine blk_far ?_ NBz0.out _; refine blk_far ?_ NBz0.out _; refine blk_far ?_ NBz0.out _; refine blk_far ?_ NBz0.out _; refine blk_far ?_ NBz0.out _; exact BKz1.out) hb); replace BKz3 := mk (blk_below (g := gbz0) (o := .cells #[.int .i64 ((rd_T43 l1 x24_2).f0), .int .i64 ((rd_T43 l1 x24_2).f1.f0), .int .i64 ((rd_T43 l1 x24_2).f1.f1), .int .i64 ((rd_T43 l1 x24_2).f1.f2), .int .i64 ((rd_T43 l1 x24_2).f1.f3), .slice Az0 ((rd_T43 l1 x24_2).f2).length cz0] 43 (0, 0)) (by refine blk_put (cs := #[.int .i64 ((rd_T43 l1 x24_2).f0), .int .i64 ((rd_T43 l1 x24_2).f1.f0), .int .i64 ((rd_T43 l1 x24_2).f1.f1), .int .i64 ((rd_T43 l1 x24_2).f1.f2), .int .i64 ((rd_T43 l1 x24_2).f1.f3), .slice none 0 0]) ?_ 5 _ rfl; refine blk_put (cs := #[.int .i64 ((rd_T43 l1 x24_2).f0), .int .i64 ((rd_T43 l1 x24_2).f1.f0), .int .i64 ((rd_T43 l1 x24_2).f1.f1), .int .i64 ((rd_T43 l1 x24_2).f1.f2), .int .i64 0, .slice none 0 0]) ?_ 4 _ rfl; refine blk_put (cs := #[.int .i64 ((rd_T43 l1 x24_2).f0), .int .i64 ((rd_T43 l1 x24_2).f1.f0), .int .i64 ((rd_T43 l1 x24_2).f1.f1), .int .i64 0, .int .i64 0, .slice none 0 0]) ?_ 3 _ rfl; refine blk_put (cs := #[.int .i64 ((rd_T43 l1 x24_2).f0), .int .i64 ((rd_T43 l1 x24_2).f1.f0), .int .i64 0, .int .i64 0, .int .i64 0, .slice none 0 0]) ?_ 2 _ rfl; refine blk_put (cs := #[.int .i64 ((rd_T43 l1 x24_2).f0), .int .i64 0, .int .i64 0, .int .i64 0, .int .i64 0, .slice none 0 0]) ?_ 1 _ rfl; refine blk_put (cs := #[.int .i64 0, .int .i64 0, .int .i64 0, .int .i64 0, .int .i64 0, .slice none 0 0]) ?_ 0 _ rfl; exact BKz3.out) hb); replace HB := mk (below_step (by repeat (with_reducible first | exact HB.out | refine below_set ?_ GEz0.out)) hb); (try clear hb); (try clear ho0)) | ((with_reducible refine gate_dst (N := 9) rfl ?_); (try (refine gate_guard (by rfl) ?_; dsimp only)); refine box_event (by rfl) (N := 9) (by rfl) (cs := #[.int .i64 0, .int .i64 0, .int .i64 0, .slice none 0 0]) (t := 28) (by go_simp; done) ?_; intro gbz3 hg w41 hbox hb; have n0_ := mk (Kd.R_below HOz0.out hb); have n1_ := mk (Kd.R_below HOz1.out hb); have n2_ := mk (blk_below BKz2.out hb); have n3_ := mk (blk_below BKz0.out hb); have n4_ := mk (blk_below BKz1.out hb); have n6_ := mk (below_step HB.out hb); have n7_ := mk (hbox); have n9_ := mk ((by rw [hg]; exact (below_size HB.out) : w.heap.size ≤ gbz3)); have n10_ := mk ((by rw [hg]; exact Nat.ne_of_lt (blk_lt BKz2.out) : gbz4 ≠ gbz3)); have n12_ := mk ((by rw [hg]; exact Nat.ne_of_lt (blk_lt BKz0.out) : gbz2 ≠ gbz3)); have n14_ := mk ((by rw [hg]; exact Nat.ne_of_lt (blk_lt BKz1.out) : gbz1 ≠ gbz3)); have n16_ := mk ((by rw [hg]; exact Nat.ne_of_lt (blk_lt BKz3.out) : gbz0 ≠ gbz3)); have n17_ := mk ((by rw [hg]; exact Nat.ne_of_gt (blk_lt BKz3.out) : gbz3 ≠ gbz0)); clear HOz0; clear HOz1; clear BKz2; clear BKz0; clear BKz1; clear BKz3; clear HB; have HOz0 := n0_; have HOz1 := n1_; have BKz2 := n2_; have BKz0 := n3_; have BKz1 := n4_; have HB := n6_; have BKz4 := n7_; have GEz2 := n9_; have NBz7 := n10_; have NBz5 := n12_; have NBz6 := n14_; have NBz8 := n16_; have NBz9 := n17_; clear hb hbox hg; have hnc44 := NBz6.out; have hnb45 := NBz9.out; have hnc45 := NBz8.out; obtain ⟨hcz46_0, hcz46_1, hcz46_2, hcz46_3, hfz46_0, hfz46_1, hfz46_2, hfz46_3⟩ := c4 BKz4.out; obtain ⟨Ao47, co47, eo47⟩ := Kd.R_slice HOz1.out; subst eo47; obtain ⟨hcz48_0, hcz48_1, hcz48_2, hcz48_3, hfz48_0, hfz48_1, hfz48_2, hfz48_3⟩ := c4 BKz1.out))
         go_roundg k2
         case measure => have := HJ2.out; have := HK2.out; omega
         case rel => exact ⟨(wrap64 (x24_2 + 1)), (xz6), (xz5), (xz4), (tz0), (tz1), (tz2), (tz3), (.slice Ao47 tz3.length co47), (by rfl), H', ⟨by have := HJ2.out; have := HK2.out; omega⟩, ⟨by exact Kd.R_mono (Kd.R_far (p := ⟨gbz1, 3, none⟩) (Kd.R_far (p := ⟨gbz1, 2, none⟩) (Kd.R_far (p := ⟨gbz1, 1, none⟩) (Kd.R_far (p := ⟨gbz1, 0, none⟩) (Kd.R_far (p := ⟨gbz3, 3, none⟩) (Kd.R_far (p := ⟨gbz3, 2, none⟩) (Kd.R_far (p := ⟨gbz3, 1, none⟩) (Kd.R_far (p := ⟨gbz3, 0, none⟩) (Kd.R_types (Kd.R_types HOz1.out BKz4.out (by decide)) BKz1.out (by decide)) (fun _ hk => hk.1.2) (.int .i64 tz0)) (fun _ hk => hk.1.2) (.int .i64 tz1)) (fun _ hk => hk.1.2) (.int .i64 tz2)) (fun _ hk => hk.1.2) (.slice Ao47 tz3.length co47)) (fun _ hk => hk.2) (.int .i64 tz0)) (fun _ hk => hk.2) (.int .i64 tz1)) (fun _ hk => hk.2) (.int .i64 tz2)) (fun _ hk => hk.2) (.slice Ao47 tz3.length co47)) (fun _ hk => trivial)⟩, ⟨by refine blk_far ?_ NBz3.out _; refine blk_far ?_ NBz3.out _; refine blk_far ?_ NBz3.out _; refine blk_far ?_ NBz3.out _; refine blk_far ?_ NBz7.out _; refine blk_far ?_ NBz7.out _; refine blk_far ?_ NBz7.out _; refine blk_far ?_ NBz7.out _; exact BKz2.out⟩, ⟨by refine blk_far ?_ NBz4.out _; refine blk_far ?_ NBz4.out _; refine blk_far ?_ NBz4.out _; refine blk_far ?_ NBz4.out _; refine blk_far ?_ NBz5.out _; refine blk_far ?_ NBz5.out _; refine blk_far ?_ NBz5.out _; refine blk_far ?_ NBz5.out _; exact BKz0.out⟩, ⟨by refine blk_put (cs := #[.int .i64 tz0, .int .i64 tz1, .int .i64 tz2, .slice Ao39 xz3.length co39]) ?_ 3 _ rfl; refine blk_put (cs := #[.int .i64 tz0, .int .i64 tz1, .int .i64 xz2, .slice Ao39 xz3.length co39]) ?_ 2 _ rfl; refine blk_put (cs := #[.int .i64 tz0, .int .i64 xz1, .int .i64 xz2, .slice Ao39 xz3.length co39]) ?_ 1 _ rfl; refine blk_put (cs := #[.int .i64 xz0, .int .i64 xz1, .int .i64 xz2, .slice Ao39 xz3.length co39]) ?_ 0 _ rfl; refine blk_far ?_ NBz6.out _; refine blk_far ?_ NBz6.out _; refine blk_far ?_ NBz6.out _; refine blk_far ?_ NBz6.out _; exact BKz1.out⟩, ⟨by repeat (with_reducible first | exact HB.out | refine below_set ?_ GEz3.out | refine below_set ?_ GEz2.out)⟩⟩
        replace c30 := Bool.eq_false_iff.mpr c30
        subst c30
        have H1 : (some (xz0, xz1, xz2, xz3, x24_2)) = some (r1, r2, r3, r4, r5) := by rw [if_neg (show ¬ (false = true) by decide)] at H; exact H
        clear H
        have H := H1
        clear H1
        simp only [Option.some.injEq, Prod.mk.injEq] at H
        obtain ⟨rfl, rfl, rfl, rfl, rfl⟩ := H
        have p16011 : 0 ≤ (x24_2 : Int) := of_decide_eq_true (by (with_reducible assumption))
        have q16011 : x24_2 < (l1.length : Int) := of_decide_eq_true (by (with_reducible assumption))
        obtain ⟨ad16011, Az0, cz0, e16011, hx16011_0, hx16011_1, hx16011_2, hx16011_3, hx16011_4, hx16011_5, hl16011_5, hi16011_5⟩ := at_T43 HR1.out x24_2 p16011 q16011
        cases e16011
        replace hx16011_0 := bc HB.out hx16011_0
        replace hx16011_1 := bc HB.out hx16011_1
        replace hx16011_2 := bc HB.out hx16011_2
        replace hx16011_3 := bc HB.out hx16011_3
        replace hx16011_4 := bc HB.out hx16011_4
        replace hx16011_5 := bc HB.out hx16011_5
        have HR16011_5 := mk hi16011_5
        have HC16011_5 := mk hl16011_5
        clear hi16011_5 hl16011_5
        replace p16011 := eq_true p16011
        replace q16011 := eq_true q16011
        go_wp2_with (first | ((with_reducible refine gate_dst (N := 8) rfl ?_); (try (refine gate_guard (by rfl) ?_; dsimp only)); refine box_event (by rfl) (N := 8) (by rfl) (cs := #[.int .i64 0, .int .i64 0, .int .i64 0, .int .i64 0, .int .i64 0, .slice none 0 0]) (t := 43) (by go_simp; done) ?_; intro gbz0 hg w49 hbox hb; replace HOz0 := mk (Kd.R_below HOz0.out hb); have BKz3 := mk (hbox); have GEz0 := mk ((by rw [hg]; exact (below_size HB.out) : w.heap.size ≤ gbz0)); replace HB := mk (below_step HB.out hb); have NBz1 := mk ((by rw [hg]; exact Nat.ne_of_lt (blk_lt BKz2.out) : gbz4 ≠ gbz0)); replace BKz2 := mk (blk_below BKz2.out hb); have NBz2 := mk ((by rw [hg]; exact Nat.ne_of_lt (blk_lt BKz0.out) : gbz2 ≠ gbz0)); replace BKz0 := mk (blk_below BKz0.out hb); have NBz0 := mk ((by rw [hg]; exact Nat.ne_of_lt (blk_lt BKz1.out) : gbz1 ≠ gbz0)); replace BKz1 := mk (blk_below BKz1.out hb); clear hb hbox hg; have hnc52 := NBz0.out; obtain ⟨hcz53_0, hcz53_1, hcz53_2, hcz53_3, hcz53_4, hcz53_5, hfz53_0, hfz53_1, hfz53_2, hfz53_3, hfz53_4, hfz53_5⟩ := c6 BKz3.out; have hnb54 := NBz10.out; have hnc54 := NBz3.out; have hnb55 := NBz11.out; have hnc55 := NBz4.out; obtain ⟨hcz56_0, hcz56_1, hcz56_2, -⟩ := c4 BKz1.out; have hcz56_3 : w49.cell? ⟨gbz1, 3, none⟩ = some u16011003 := (blk_cell BKz1.out 3).trans rfl; obtain ⟨Ao57, co57, eo57⟩ := Kd.R_slice HOz0.out; subst eo57) | ((with_reducible refine gate_callee (f := 45) rfl ?_); refine goesL_ (some 32) rfl rfl Try.func45 (by kernel_rfl) rfl #[.agg #[.int .i64 xz0, .int .i64 xz1, .int .i64 xz2, .slice Ao57 xz3.length co57], .agg #[.int .i64 ((rd_T43 l1 x24_2).f0), .int .i64 ((rd_T43 l1 x24_2).f1.f0), .int .i64 ((rd_T43 l1 x24_2).f1.f1), .int .i64 ((rd_T43 l1 x24_2).f1.f2), .int .i64 ((rd_T43 l1 x24_2).f1.f3), .slice Az0 ((rd_T43 l1 x24_2).f2).length cz0]] rfl (by (try simp only [List.map_toArray, List.map_cons, List.map_nil]); rfl) ?_; (with_reducible refine (impl_doStep.calls xz0 xz1 xz2 _ _ xz3 ((rd_T43 l1 x24_2).f0) ((rd_T43 l1 x24_2).f1.f0) ((rd_T43 l1 x24_2).f1.f1) ((rd_T43 l1 x24_2).f1.f2) ((rd_T43 l1 x24_2).f1.f3) _ _ ((rd_T43 l1 x24_2).f2) tz0 tz1 tz2 tz3 false _ ?side1 ?side2 ?side3 ?side4 A29.out).mono ?_); (case side1 => refine (Kd.R_reads' (e := 3) (base := w.heap.size) (ok := fun k_ => True) (n := xz3.length) (c := co57) ?_).2.2; exact (by exact (Kd.R_mono (Kd.R_far (p := ⟨gbz0, 5, none⟩) (Kd.R_far (p := ⟨gbz0, 4, none⟩) (Kd.R_far (p := ⟨gbz0, 3, none⟩) (Kd.R_far (p := ⟨gbz0, 2, none⟩) (Kd.R_far (p := ⟨gbz0, 1, none⟩) (Kd.R_far (p := ⟨gbz0, 0, none⟩) (Kd.R_types HOz0.out BKz3.out (by decide)) (fun _ hk => hk.2) (.int .i64 ((rd_T43 l1 x24_2).f0))) (fun _ hk => hk.2) (.int .i64 ((rd_T43 l1 x24_2).f1.f0))) (fun _ hk => hk.2) (.int .i64 ((rd_T43 l1 x24_2).f1.f1))) (fun _ hk => hk.2) (.int .i64 ((rd_T43 l1 x24_2).f1.f2))) (fun _ hk => hk.2) (.int .i64 ((rd_T43 l1 x24_2).f1.f3))) (fun _ hk => hk.2) (.slice Az0 ((rd_T43 l1 x24_2).f2).length cz0)) (fun _ h_ => h_.1)))); (case side2 => exact (Kd.R_reads' HOz0.out).2.1); (case side3 => exact Kd.C_below HR16011_5.out (by repeat (with_reducible first | exact HB.out | refine below_set ?_ GEz0.out))); (case side4 => exact HC16011_5.out); rintro e w58 ⟨vz0, rfl, ho0, hb⟩; refine ⟨_, rfl, ?_⟩; have HOz1 := mk (Kd.R_lower (Kd.R_new' ho0 (Kd.R_lt (by exact (Kd.R_mono (Kd.R_far (p := ⟨gbz0, 5, none⟩) (Kd.R_far (p := ⟨gbz0, 4, none⟩) (Kd.R_far (p := ⟨gbz0, 3, none⟩) (Kd.R_far (p := ⟨gbz0, 2, none⟩) (Kd.R_far (p := ⟨gbz0, 1, none⟩) (Kd.R_far (p := ⟨gbz0, 0, none⟩) (Kd.R_types HOz0.out BKz3.out (by decide)) (fun _ hk => hk.2) (.int .i64 ((rd_T43 l1 x24_2).f0))) (fun _ hk => hk.2) (.int .i64 ((rd_T43 l1 x24_2).f1.f0))) (fun _ hk => hk.2) (.int .i64 ((rd_T43 l1 x24_2).f1.f1))) (fun _ hk => hk.2) (.int .i64 ((rd_T43 l1 x24_2).f1.f2))) (fun _ hk => hk.2) (.int .i64 ((rd_T43 l1 x24_2).f1.f3))) (fun _ hk => hk.2) (.slice Az0 ((rd_T43 l1 x24_2).f2).length cz0)) (fun _ h_ => h_.1))))) (below_size (by repeat (with_reducible first | exact HB.out | refine below_set ?_ GEz0.out)))); replace HOz0 := mk (Kd.R_elder' (by exact (Kd.R_mono (Kd.R_far (p := ⟨gbz0, 5, none⟩) (Kd.R_far (p := ⟨gbz0, 4, none⟩) (Kd.R_far (p := ⟨gbz0, 3, none⟩) (Kd.R_far (p := ⟨gbz0, 2, none⟩) (Kd.R_far (p := ⟨gbz0, 1, none⟩) (Kd.R_far (p := ⟨gbz0, 0, none⟩) (Kd.R_types HOz0.out BKz3.out (by decide)) (fun _ hk => hk.2) (.int .i64 ((rd_T43 l1 x24_2).f0))) (fun _ hk => hk.2) (.int .i64 ((rd_T43 l1 x24_2).f1.f0))) (fun _ hk => hk.2) (.int .i64 ((rd_T43 l1 x24_2).f1.f1))) (fun _ hk => hk.2) (.int .i64 ((rd_T43 l1 x24_2).f1.f2))) (fun _ hk => hk.2) (.int .i64 ((rd_T43 l1 x24_2).f1.f3))) (fun _ hk => hk.2) (.slice Az0 ((rd_T43 l1 x24_2).f2).length cz0)) (fun _ h_ => h_.1))) (Kd.R_base ho0) hb); replace BKz2 := mk (blk_below (g := gbz4) (o := .cells #[.int .i64 a0_0, .int .i64 a0_1, .int .i64 a0_2, .slice A0_3 l0_3.length c0_3] 28 (0, 0)) (by refine blk_far ?_ NBz1.out _; refine blk_far ?_ NBz1.out _; refine blk_far ?_ NBz1.out _; refine blk_far ?_ NBz1.out _; refine blk_far ?_ NBz1.out _; refine blk_far ?_ NBz1.out _; exact BKz2.out) hb); replace BKz0 := mk (blk_below (g := gbz2) (o := .cells #[.int .i64 xz6, .int .i64 xz5, .int .i64 xz4, .slice none 0 0] 28 (0, 0)) (by refine blk_far ?_ NBz2.out _; refine blk_far ?_ NBz2.out _; refine blk_far ?_ NBz2.out _; refine blk_far ?_ NBz2.out _; refine blk_far ?_ NBz2.out _; refine blk_far ?_ NBz2.out _; exact BKz0.out) hb); replace BKz1 := mk (blk_below (g := gbz1) (o := .cells #[.int .i64 xz0, .int .i64 xz1, .int .i64 xz2, .slice Ao57 xz3.length co57] 28 (0, 0)) (by refine blk_far ?_ NBz0.out _; refine blk_far ?_ NBz0.out _; refine blk_far ?_ NBz0.out _; refine blk_far ?_ NBz0.out _; refine blk_far ?_ NBz0.out _; refine blk_far ?_ NBz0.out _; exact BKz1.out) hb); replace BKz3 := mk (blk_below (g := gbz0) (o := .cells #[.int .i64 ((rd_T43 l1 x24_2).f0), .int .i64 ((rd_T43 l1 x24_2).f1.f0), .int .i64 ((rd_T43 l1 x24_2).f1.f1), .int .i64 ((rd_T43 l1 x24_2).f1.f2), .int .i64 ((rd_T43 l1 x24_2).f1.f3), .slice Az0 ((rd_T43 l1 x24_2).f2).length cz0] 43 (0, 0)) (by refine blk_put (cs := #[.int .i64 ((rd_T43 l1 x24_2).f0), .int .i64 ((rd_T43 l1 x24_2).f1.f0), .int .i64 ((rd_T43 l1 x24_2).f1.f1), .int .i64 ((rd_T43 l1 x24_2).f1.f2), .int .i64 ((rd_T43 l1 x24_2).f1.f3), .slice none 0 0]) ?_ 5 _ rfl; refine blk_put (cs := #[.int .i64 ((rd_T43 l1 x24_2).f0), .int .i64 ((rd_T43 l1 x24_2).f1.f0), .int .i64 ((rd_T43 l1 x24_2).f1.f1), .int .i64 ((rd_T43 l1 x24_2).f1.f2), .int .i64 0, .slice none 0 0]) ?_ 4 _ rfl; refine blk_put (cs := #[.int .i64 ((rd_T43 l1 x24_2).f0), .int .i64 ((rd_T43 l1 x24_2).f1.f0), .int .i64 ((rd_T43 l1 x24_2).f1.f1), .int .i64 0, .int .i64 0, .slice none 0 0]) ?_ 3 _ rfl; refine blk_put (cs := #[.int .i64 ((rd_T43 l1 x24_2).f0), .int .i64 ((rd_T43 l1 x24_2).f1.f0), .int .i64 0, .int .i64 0, .int .i64 0, .slice none 0 0]) ?_ 2 _ rfl; refine blk_put (cs := #[.int .i64 ((rd_T43 l1 x24_2).f0), .int .i64 0, .int .i64 0, .int .i64 0, .int .i64 0, .slice none 0 0]) ?_ 1 _ rfl; refine blk_put (cs := #[.int .i64 0, .int .i64 0, .int .i64 0, .int .i64 0, .int .i64 0, .slice none 0 0]) ?_ 0 _ rfl; exact BKz3.out) hb); replace HB := mk (below_step (by repeat (with_reducible first | exact HB.out | refine below_set ?_ GEz0.out)) hb); (try clear hb); (try clear ho0)) | ((with_reducible refine gate_dst (N := 9) rfl ?_); (try (refine gate_guard (by rfl) ?_; dsimp only)); refine box_event (by rfl) (N := 9) (by rfl) (cs := #[.int .i64 0, .int .i64 0, .int .i64 0, .slice none 0 0]) (t := 28) (by go_simp; done) ?_; intro gbz3 hg w59 hbox hb; have n0_ := mk (Kd.R_below HOz0.out hb); have n1_ := mk (Kd.R_below HOz1.out hb); have n3_ := mk (blk_below BKz0.out hb); have n4_ := mk (blk_below BKz1.out hb); have n6_ := mk (below_step HB.out hb); have n7_ := mk (hbox); have n9_ := mk ((by rw [hg]; exact (below_size HB.out) : w.heap.size ≤ gbz3)); have n12_ := mk ((by rw [hg]; exact Nat.ne_of_lt (blk_lt BKz0.out) : gbz2 ≠ gbz3)); have n14_ := mk ((by rw [hg]; exact Nat.ne_of_lt (blk_lt BKz1.out) : gbz1 ≠ gbz3)); have n15_ := mk ((by rw [hg]; exact Nat.ne_of_gt (blk_lt BKz1.out) : gbz3 ≠ gbz1)); have n16_ := mk ((by rw [hg]; exact Nat.ne_of_lt (blk_lt BKz3.out) : gbz0 ≠ gbz3)); have n17_ := mk ((by rw [hg]; exact Nat.ne_of_gt (blk_lt BKz3.out) : gbz3 ≠ gbz0)); clear HOz0; clear HOz1; clear BKz2; clear BKz0; clear BKz1; clear BKz3; clear HB; have HOz0 := n0_; have HOz1 := n1_; have BKz0 := n3_; have BKz1 := n4_; have HB := n6_; have BKz4 := n7_; have GEz2 := n9_; have NBz5 := n12_; have NBz6 := n14_; have NBz14 := n15_; have NBz8 := n16_; have NBz9 := n17_; clear hb hbox hg; have hnc61 := NBz5.out; have hnb62 := NBz14.out; have hnc62 := NBz6.out; have hnb63 := NBz9.out; have hnc63 := NBz8.out; obtain ⟨hcz64_0, hcz64_1, hcz64_2, hcz64_3, hfz64_0, hfz64_1, hfz64_2, hfz64_3⟩ := c4 BKz4.out; obtain ⟨Ao65, co65, eo65⟩ := Kd.R_slice HOz1.out; subst eo65; obtain ⟨hcz66_0, hcz66_1, hcz66_2, hcz66_3, -⟩ := c4 BKz1.out; have hnb67 := NBz13.out; have hnc67 := NBz12.out; obtain ⟨hcz68_0, hcz68_1, hcz68_2, hcz68_3, hfz68_0, hfz68_1, hfz68_2, hfz68_3⟩ := c4 BKz0.out))
        refine bodyPost_ret (results_ct rfl _ _ gbz2 28 #[.int .i64 xz0, .int .i64 xz1, .int .i64 xz2, .slice Ao57 xz3.length co57] (0, 0) _ rfl (by refine blk_put (cs := #[.int .i64 xz0, .int .i64 xz1, .int .i64 xz2, .slice none 0 0]) ?_ 3 _ rfl; refine blk_put (cs := #[.int .i64 xz0, .int .i64 xz1, .int .i64 xz4, .slice none 0 0]) ?_ 2 _ rfl; refine blk_put (cs := #[.int .i64 xz0, .int .i64 xz5, .int .i64 xz4, .slice none 0 0]) ?_ 1 _ rfl; refine blk_put (cs := #[.int .i64 xz6, .int .i64 xz5, .int .i64 xz4, .slice none 0 0]) ?_ 0 _ rfl; refine blk_far ?_ NBz5.out _; refine blk_far ?_ NBz5.out _; refine blk_far ?_ NBz5.out _; refine blk_far ?_ NBz5.out _; exact BKz0.out) Try.underlying28 rfl (by kernel_rfl)) rfl ?_
        exact ⟨_, by rfl, by exact Kd.R_mono (Kd.R_far (p := ⟨gbz2, 3, none⟩) (Kd.R_far (p := ⟨gbz2, 2, none⟩) (Kd.R_far (p := ⟨gbz2, 1, none⟩) (Kd.R_far (p := ⟨gbz2, 0, none⟩) (Kd.R_far (p := ⟨gbz3, 3, none⟩) (Kd.R_far (p := ⟨gbz3, 2, none⟩) (Kd.R_far (p := ⟨gbz3, 1, none⟩) (Kd.R_far (p := ⟨gbz3, 0, none⟩) (Kd.R_types (Kd.R_types HOz0.out BKz4.out (by decide)) BKz0.out (by decide)) (fun _ hk => hk.1.2) (.int .i64 tz0)) (fun _ hk => hk.1.2) (.int .i64 tz1)) (fun _ hk => hk.1.2) (.int .i64 tz2)) (fun _ hk => hk.1.2) (.slice Ao65 tz3.length co65)) (fun _ hk => hk.2) (.int .i64 xz0)) (fun _ hk => hk.2) (.int .i64 xz1)) (fun _ hk => hk.2) (.int .i64 xz2)) (fun _ hk => hk.2) (.slice Ao57 xz3.length co57)) (fun _ hk => trivial), by repeat (with_reducible first | exact HB.out | refine below_set ?_ GEz1.out | refine below_set ?_ GEz2.out)⟩
       rw [if_neg c28] at H
       exact absurd H (by simp)
      rw [if_neg c27] at H
      exact absurd H (by simp)
     rw [if_neg c26] at H
     have c26b0 : decide (x24_2 < (l1.length : Int)) = false := decide_eq_false c26
     clear c26
     simp only [Option.some.injEq, Prod.mk.injEq] at H
     obtain ⟨rfl, rfl, rfl, rfl, rfl⟩ := H
     obtain ⟨hcz71_0, hcz71_1, hcz71_2, -⟩ := c4 BKz1.out
     have hcz71_3 : wr.cell? ⟨gbz1, 3, none⟩ = some u16011003 := (blk_cell BKz1.out 3).trans rfl
     obtain ⟨hcz73_0, hcz73_1, hcz73_2, hcz73_3, hfz73_0, hfz73_1, hfz73_2, hfz73_3⟩ := c4 BKz0.out
     obtain ⟨Ao74, co74, eo74⟩ := Kd.R_slice HOz0.out
     subst eo74
     go_wp2
     refine bodyPost_ret (results_ct rfl _ _ gbz2 28 #[.int .i64 xz0, .int .i64 xz1, .int .i64 xz2, .slice Ao74 xz3.length co74] (0, 0) _ rfl (by refine blk_put (cs := #[.int .i64 xz0, .int .i64 xz1, .int .i64 xz2, .slice none 0 0]) ?_ 3 _ rfl; refine blk_put (cs := #[.int .i64 xz0, .int .i64 xz1, .int .i64 xz4, .slice none 0 0]) ?_ 2 _ rfl; refine blk_put (cs := #[.int .i64 xz0, .int .i64 xz5, .int .i64 xz4, .slice none 0 0]) ?_ 1 _ rfl; refine blk_put (cs := #[.int .i64 xz6, .int .i64 xz5, .int .i64 xz4, .slice none 0 0]) ?_ 0 _ rfl; exact BKz0.out) Try.underlying28 rfl (by kernel_rfl)) rfl ?_
     exact ⟨_, by rfl, by exact Kd.R_mono (Kd.R_far (p := ⟨gbz2, 3, none⟩) (Kd.R_far (p := ⟨gbz2, 2, none⟩) (Kd.R_far (p := ⟨gbz2, 1, none⟩) (Kd.R_far (p := ⟨gbz2, 0, none⟩) (Kd.R_types HOz0.out BKz0.out (by decide)) (fun _ hk => hk.2) (.int .i64 xz0)) (fun _ hk => hk.2) (.int .i64 xz1)) (fun _ hk => hk.2) (.int .i64 xz2)) (fun _ hk => hk.2) (.slice Ao74 xz3.length co74)) (fun _ hk => trivial), by repeat (with_reducible first | exact HB.out | refine below_set ?_ GEz1.out)⟩


def laws_szStep.f (a0_0 : Int) (a0_1 : Int) (a0_2 : Int) (a0_3 : Int) (a0_4 : Int) (l0_5 : List Int) (a1 : Int) : Option (Int) := (laws_szIntS.f l0_5 a1).bind fun t33002 => (if t33002 < 0 then (some (-1)) else (some t33002))
set_option maxHeartbeats 8000000 in
set_option maxRecDepth 100000 in
theorem laws_szStep.calls (a0_0 : Int) (a0_1 : Int) (a0_2 : Int) (a0_3 : Int) (a0_4 : Int) (A0_5 : Option Addr) (c0_5 : Nat) (l0_5 : List Int) (a1 : Int) (r : Int) (w : World) (hr0_5 : Kd.C (Kd.int .i64) w A0_5 l0_5.length l0_5) (hc0_5 : l0_5.length ≤ c0_5) (h : laws_szStep.f a0_0 a0_1 a0_2 a0_3 a0_4 l0_5 a1 = some r) :
  Calls Try.prog 32 #[.agg #[.int .i64 a0_0, .int .i64 a0_1, .int .i64 a0_2, .int .i64 a0_3, .int .i64 a0_4, .slice A0_5 l0_5.length c0_5], .int .i64 a1] w fun e w' => e = .returned (.int .i64 r) ∧ Below w.heap.size w w' := by
 have hu57 := Try.underlying57
 have HR0_5 := mk hr0_5
 have HC0_5 := mk hc0_5
 clear hr0_5 hc0_5
 have HB := mk (Below.refl w.heap.size w)
 have H : ((laws_szIntS.f l0_5 a1).bind fun t33002 => (if t33002 < 0 then (some (-1)) else (some t33002))) = some r := h
 clear h
 replace H := Option.bind_eq_some_iff.mp H
 obtain ⟨t33002, A30, H⟩ := H
 replace H : (if t33002 < 0 then (some (-1)) else (some t33002)) = some r := H
 have A3 := mk A30
 clear A30
 by_cases c4 : t33002 < 0
 ·rw [if_pos c4] at H
  have c4b0 : decide (t33002 < 0) = true := decide_eq_true c4
  clear c4
  obtain rfl := Option.some.inj H
  go_enter Try.func32, Try.ntmps32
  go_wp2_with (first | ((with_reducible refine gate_dst (N := 2) rfl ?_); refine box_event ?hg (N := 2) ?hd (cs := #[.int .i64 a0_0, .int .i64 a0_1, .int .i64 a0_2, .int .i64 a0_3, .int .i64 a0_4, .slice A0_5 l0_5.length c0_5]) (t := 57) ?hr ?_; (case hd => rfl); (case hg => rfl); (case hr => first | (go_simp; done) | (go_simp; rfl)); intro gb33001 hg w5 hbox hb; have n0_ := mk (below_step (by repeat (first | (with_reducible first | exact HB.out | apply below_alloc | apply pw_below_drewN | apply below_drew1) | exact HB.out)) hb); have n1_ := mk (hbox); have n2_ := mk ((by rw [hg]; exact (below_size (by repeat (first | (with_reducible first | exact HB.out | apply below_alloc | apply pw_below_drewN | apply below_drew1) | exact HB.out))) : w.heap.size ≤ gb33001)); have n3_ := mk ((by rw [hg]; exact (below_size (by repeat (first | (with_reducible first | exact HB.out | apply below_alloc | apply pw_below_drewN | apply below_drew1) | exact HB.out))) : w.heap.size ≤ gb33001)); clear HB; have HB := n0_; have BK33001 := n1_; have GW33001 := n2_; have GE33001 := n3_; clear n0_ n1_ n2_ n3_; clear hb hbox hg; have hcz6_0 : w5.cell? ⟨gb33001, 0, none⟩ = some (.int .i64 a0_0) := (blk_cell BK33001.out 0).trans rfl; have hcz6_1 : w5.cell? ⟨gb33001, 1, none⟩ = some (.int .i64 a0_1) := (blk_cell BK33001.out 1).trans rfl; have hcz6_2 : w5.cell? ⟨gb33001, 2, none⟩ = some (.int .i64 a0_2) := (blk_cell BK33001.out 2).trans rfl; have hcz6_3 : w5.cell? ⟨gb33001, 3, none⟩ = some (.int .i64 a0_3) := (blk_cell BK33001.out 3).trans rfl; have hcz6_4 : w5.cell? ⟨gb33001, 4, none⟩ = some (.int .i64 a0_4) := (blk_cell BK33001.out 4).trans rfl; have hcz6_5 : w5.cell? ⟨gb33001, 5, none⟩ = some (.slice A0_5 l0_5.length c0_5) := (blk_cell BK33001.out 5).trans rfl; have hfz6_0 := blk_frozen BK33001.out 0; have hfz6_1 := blk_frozen BK33001.out 1; have hfz6_2 := blk_frozen BK33001.out 2; have hfz6_3 := blk_frozen BK33001.out 3; have hfz6_4 := blk_frozen BK33001.out 4; have hfz6_5 := blk_frozen BK33001.out 5) | ((with_reducible refine gate_callee (f := 38) rfl ?_); refine goesL_ (some 8) rfl rfl Try.func38 (by kernel_rfl) rfl #[.slice A0_5 l0_5.length c0_5, .int .i64 a1] rfl (by (try simp only [List.map_toArray, List.map_cons, List.map_nil]); first | done | rfl | (simp only [List.length_drop, List.length_take]; rfl)) ?_; (with_reducible refine (laws_szIntS.calls _ _ l0_5 a1 t33002 _ ?side1 ?side2 A3.out).mono ?_); (case side1 => repeat (first | exact (Kd.C_below HR0_5.out HB.out) | (with_reducible refine Kd.C_alloc ?_ _) | (with_reducible refine Kd.C_drewN ?_ _) | (with_reducible refine Kd.C_drew ?_))); (case side2 => exact HC0_5.out); rintro e w' ⟨rfl, ⟨nd, rfl⟩⟩; refine ⟨_, rfl, ?_⟩))
  go_ret
  exact ⟨by first | rfl | (simp [errW_none, errW_some] <;> rfl) | (simp [*, errW_none, errW_some] <;> rfl), by repeat (first | (with_reducible first | exact HB.out | apply below_alloc | apply pw_below_drewN | apply below_drew1 | refine below_set ?_ GE33001.out) | exact HB.out)⟩
 ·rw [if_neg c4] at H
  have c4b0 : decide (t33002 < 0) = false := decide_eq_false c4
  clear c4
  obtain rfl := Option.some.inj H
  go_enter Try.func32, Try.ntmps32
  go_wp2_with (first | ((with_reducible refine gate_dst (N := 2) rfl ?_); refine box_event ?hg (N := 2) ?hd (cs := #[.int .i64 a0_0, .int .i64 a0_1, .int .i64 a0_2, .int .i64 a0_3, .int .i64 a0_4, .slice A0_5 l0_5.length c0_5]) (t := 57) ?hr ?_; (case hd => rfl); (case hg => rfl); (case hr => first | (go_simp; done) | (go_simp; rfl)); intro gb33001 hg w7 hbox hb; have n0_ := mk (below_step (by repeat (first | (with_reducible first | exact HB.out | apply below_alloc | apply pw_below_drewN | apply below_drew1) | exact HB.out)) hb); have n1_ := mk (hbox); have n2_ := mk ((by rw [hg]; exact (below_size (by repeat (first | (with_reducible first | exact HB.out | apply below_alloc | apply pw_below_drewN | apply below_drew1) | exact HB.out))) : w.heap.size ≤ gb33001)); have n3_ := mk ((by rw [hg]; exact (below_size (by repeat (first | (with_reducible first | exact HB.out | apply below_alloc | apply pw_below_drewN | apply below_drew1) | exact HB.out))) : w.heap.size ≤ gb33001)); clear HB; have HB := n0_; have BK33001 := n1_; have GW33001 := n2_; have GE33001 := n3_; clear n0_ n1_ n2_ n3_; clear hb hbox hg; have hcz8_0 : w7.cell? ⟨gb33001, 0, none⟩ = some (.int .i64 a0_0) := (blk_cell BK33001.out 0).trans rfl; have hcz8_1 : w7.cell? ⟨gb33001, 1, none⟩ = some (.int .i64 a0_1) := (blk_cell BK33001.out 1).trans rfl; have hcz8_2 : w7.cell? ⟨gb33001, 2, none⟩ = some (.int .i64 a0_2) := (blk_cell BK33001.out 2).trans rfl; have hcz8_3 : w7.cell? ⟨gb33001, 3, none⟩ = some (.int .i64 a0_3) := (blk_cell BK33001.out 3).trans rfl; have hcz8_4 : w7.cell? ⟨gb33001, 4, none⟩ = some (.int .i64 a0_4) := (blk_cell BK33001.out 4).trans rfl; have hcz8_5 : w7.cell? ⟨gb33001, 5, none⟩ = some (.slice A0_5 l0_5.length c0_5) := (blk_cell BK33001.out 5).trans rfl; have hfz8_0 := blk_frozen BK33001.out 0; have hfz8_1 := blk_frozen BK33001.out 1; have hfz8_2 := blk_frozen BK33001.out 2; have hfz8_3 := blk_frozen BK33001.out 3; have hfz8_4 := blk_frozen BK33001.out 4; have hfz8_5 := blk_frozen BK33001.out 5) | ((with_reducible refine gate_callee (f := 38) rfl ?_); refine goesL_ (some 8) rfl rfl Try.func38 (by kernel_rfl) rfl #[.slice A0_5 l0_5.length c0_5, .int .i64 a1] rfl (by (try simp only [List.map_toArray, List.map_cons, List.map_nil]); first | done | rfl | (simp only [List.length_drop, List.length_take]; rfl)) ?_; (with_reducible refine (laws_szIntS.calls _ _ l0_5 a1 t33002 _ ?side1 ?side2 A3.out).mono ?_); (case side1 => repeat (first | exact (Kd.C_below HR0_5.out HB.out) | (with_reducible refine Kd.C_alloc ?_ _) | (with_reducible refine Kd.C_drewN ?_ _) | (with_reducible refine Kd.C_drew ?_))); (case side2 => exact HC0_5.out); rintro e w' ⟨rfl, ⟨nd, rfl⟩⟩; refine ⟨_, rfl, ?_⟩))
  go_ret
  exact ⟨by first | rfl | (simp [errW_none, errW_some] <;> rfl) | (simp [*, errW_none, errW_some] <;> rfl), by repeat (first | (with_reducible first | exact HB.out | apply below_alloc | apply pw_below_drewN | apply below_drew1 | refine below_set ?_ GE33001.out) | exact HB.out)⟩


def laws_szStepS.l0 : Nat → List (S57) → Int → Int → Option (Int)
 | 0, _, _, _ => none
 | k + 1, x0, x1, x5 => if x5 < (x0.length : Int) then (if 0 ≤ x5 then ((laws_szStep.f ((rd_T57 x0 x5).f0) ((rd_T57 x0 x5).f1.f0) ((rd_T57 x0 x5).f1.f1) ((rd_T57 x0 x5).f1.f2) ((rd_T57 x0 x5).f1.f3) ((rd_T57 x0 x5).f2) x1).bind fun t12002 => (if t12002 < 0 then (some (-1)) else (laws_szStepS.l0 k x0 t12002 (wrap64 (x5 + 1))))) else (none)) else (some x1)
def laws_szStepS.f (k : Nat) (l0 : List (S57)) (a1 : Int) : Option (Int) := if (wrap64 (a1 - (l0.length : Int))) < 0 then (some (-1)) else (laws_szStepS.l0 k l0 (wrap64 (a1 - (l0.length : Int))) 0)
theorem laws_szStepS.mono_l : ∀ k, (∀ y0 y1 y2, LeO (laws_szStepS.l0 k y0 y1 y2) (laws_szStepS.l0 (k + 1) y0 y1 y2))
 | 0 => fun _ _ _ r h => by simp [laws_szStepS.l0] at h
 | k + 1 => by
  have ih0 := laws_szStepS.mono_l k
  ·intro y0 y1 y2
   unfold laws_szStepS.l0
   repeat' first
   | (with_reducible exact ih0 _ _ _)
   | (with_reducible exact LeO.refl _)
   | (with_reducible exact LeO.none _)
   | (with_reducible refine LeO.ite ?_ ?_)
   | (with_reducible refine LeO.bind ?_ (fun _ => ?_))
   | exact ih0 _ _ _
   | exact LeO.none _
   | refine LeO.ite ?_ ?_
   | refine LeO.bind ?_ (fun _ => ?_)
theorem laws_szStepS.mono : ∀ a0 a1 k, LeO (laws_szStepS.f k a0 a1) (laws_szStepS.f (k + 1) a0 a1) := by
 intro a0 a1 k
 have ih0 := laws_szStepS.mono_l k
 unfold laws_szStepS.f
 repeat' first
   | (with_reducible exact ih0 _ _ _)
   | (with_reducible exact LeO.refl _)
   | (with_reducible exact LeO.none _)
   | (with_reducible refine LeO.ite ?_ ?_)
   | (with_reducible refine LeO.bind ?_ (fun _ => ?_))
   | exact ih0 _ _ _
   | exact LeO.none _
   | refine LeO.ite ?_ ?_
   | refine LeO.bind ?_ (fun _ => ?_)
set_option maxHeartbeats 8000000 in
set_option maxRecDepth 100000 in
theorem laws_szStepS.calls (k : Nat) (A0 : Option Addr) (c0 : Nat) (l0 : List (S57)) (a1 : Int) (r : Int) (w : World) (hr0 : Kd.C k57 w A0 l0.length l0) (hc0 : l0.length ≤ c0) (h : laws_szStepS.f k l0 a1 = some r) :
  Calls Try.prog 11 #[.slice A0 l0.length c0, .int .i64 a1] w fun e w' => e = .returned (.int .i64 r) ∧ Below w.heap.size w w' := by
 have hu57 := Try.underlying57
 have HR0 := mk hr0
 have HC0 := mk hc0
 clear hr0 hc0
 have HB := mk (Below.refl w.heap.size w)
 have H : (if (wrap64 (a1 - (l0.length : Int))) < 0 then (some (-1)) else (laws_szStepS.l0 k l0 (wrap64 (a1 - (l0.length : Int))) 0)) = some r := h
 clear h
 by_cases c3 : (wrap64 (a1 - (l0.length : Int))) < 0
 ·rw [if_pos c3] at H
  have c3b0 : decide ((wrap64 (a1 - (l0.length : Int))) < 0) = true := decide_eq_true c3
  clear c3
  obtain rfl := Option.some.inj H
  go_enter Try.func11, Try.ntmps11
  go_wp2
  go_ret
  exact ⟨by first | rfl | (simp [errW_none, errW_some] <;> rfl) | (simp [*, errW_none, errW_some] <;> rfl), by repeat (first | (with_reducible first | exact HB.out | apply below_alloc | apply pw_below_drewN | apply below_drew1) | exact HB.out)⟩
 ·rw [if_neg c3] at H
  have c3b0 : decide ((wrap64 (a1 - (l0.length : Int))) < 0) = false := decide_eq_false c3
  clear c3
  have H' := mk H
  clear H
  go_enter Try.func11, Try.ntmps11
  go_wp2
  go_loopg [1, 5] k (fun kq v1 v5 w' => ∃ (x1_1 : Int) (x5_1 : Int), v1 = .int .i64 x1_1 ∧ v5 = .int .i64 x5_1 ∧ Aside0 (laws_szStepS.l0 kq l0 x1_1 x5_1 = some r) ∧ Aside0 (kq ≤ k) ∧ Aside0 (Below w.heap.size w w'))
  case atStart => exact ⟨(wrap64 (a1 - (l0.length : Int))), (0), (by first | rfl | (simp; done) | (simp [*]; done)), (by first | rfl | (simp; done) | (simp [*]; done)), H', ⟨Nat.le_refl _⟩, ⟨by repeat (first | (with_reducible first | exact HB.out | apply below_alloc | apply pw_below_drewN | apply below_drew1) | exact HB.out)⟩⟩
  case round =>
   clear H'
   try clear c1
   try clear p2
   try clear c3
   try clear c3b0
   obtain ⟨x1_1, x5_1, rfl, rfl, HA, HK1, HB⟩ := hrel
   cases gk with
   | zero => exact absurd HA.out (by simp [laws_szStepS.l0])
   | succ k1 =>
    have H := HA.out
    clear HA
    simp only [laws_szStepS.l0] at H
    by_cases c4 : x5_1 < (l0.length : Int)
    ·rw [if_pos c4] at H
     have c4b0 : decide (x5_1 < (l0.length : Int)) = true := decide_eq_true c4
     clear c4
     by_cases c5 : 0 ≤ x5_1
     ·rw [if_pos c5] at H
      have c5b0 : decide (0 ≤ x5_1) = true := decide_eq_true c5
      clear c5
      replace H := Option.bind_eq_some_iff.mp H
      obtain ⟨t12002, A60, H⟩ := H
      replace H : (if t12002 < 0 then (some (-1)) else (laws_szStepS.l0 k1 l0 t12002 (wrap64 (x5_1 + 1)))) = some r := H
      have A6 := mk A60
      clear A60
      by_cases c7 : t12002 < 0
      ·rw [if_pos c7] at H
       have c7b0 : decide (t12002 < 0) = true := decide_eq_true c7
       clear c7
       obtain rfl := Option.some.inj H
       have p12001 : 0 ≤ (x5_1 : Int) := of_decide_eq_true (by first | (with_reducible assumption) | assumption)
       have q12001 : x5_1 < (l0.length : Int) := of_decide_eq_true (by first | (with_reducible assumption) | assumption)
       obtain ⟨ad12001, A12001_5, c12001_5, e12001, hx12001_0, hx12001_1, hx12001_2, hx12001_3, hx12001_4, hx12001_5, hl12001_5, hi12001_5⟩ := at_T57 HR0.out x5_1 p12001 q12001
       cases e12001
       replace hx12001_0 := (HB.out.cell (World.block_lt_of_cell? w _ hx12001_0)).trans hx12001_0
       replace hx12001_1 := (HB.out.cell (World.block_lt_of_cell? w _ hx12001_1)).trans hx12001_1
       replace hx12001_2 := (HB.out.cell (World.block_lt_of_cell? w _ hx12001_2)).trans hx12001_2
       replace hx12001_3 := (HB.out.cell (World.block_lt_of_cell? w _ hx12001_3)).trans hx12001_3
       replace hx12001_4 := (HB.out.cell (World.block_lt_of_cell? w _ hx12001_4)).trans hx12001_4
       replace hx12001_5 := (HB.out.cell (World.block_lt_of_cell? w _ hx12001_5)).trans hx12001_5
       have HR12001_5 := mk hi12001_5
       have HC12001_5 := mk hl12001_5
       clear hi12001_5 hl12001_5
       replace p12001 := eq_true p12001
       replace q12001 := eq_true q12001
       go_wp2_with (first | ((with_reducible refine gate_callee (f := 32) rfl ?_); refine goesL_ (some 23) rfl rfl Try.func32 (by kernel_rfl) rfl #[.agg #[.int .i64 ((rd_T57 l0 x5_1).f0), .int .i64 ((rd_T57 l0 x5_1).f1.f0), .int .i64 ((rd_T57 l0 x5_1).f1.f1), .int .i64 ((rd_T57 l0 x5_1).f1.f2), .int .i64 ((rd_T57 l0 x5_1).f1.f3), .slice A12001_5 ((rd_T57 l0 x5_1).f2).length c12001_5], .int .i64 x1_1] rfl (by (try simp only [List.map_toArray, List.map_cons, List.map_nil]); first | done | rfl | (simp only [List.length_drop, List.length_take]; rfl)) ?_; (with_reducible refine (laws_szStep.calls ((rd_T57 l0 x5_1).f0) ((rd_T57 l0 x5_1).f1.f0) ((rd_T57 l0 x5_1).f1.f1) ((rd_T57 l0 x5_1).f1.f2) ((rd_T57 l0 x5_1).f1.f3) _ _ ((rd_T57 l0 x5_1).f2) x1_1 t12002 _ ?side1 ?side2 A6.out).mono ?_); (case side1 => repeat (first | exact (Kd.C_below HR12001_5.out HB.out) | (with_reducible refine Kd.C_alloc ?_ _) | (with_reducible refine Kd.C_drewN ?_ _) | (with_reducible refine Kd.C_drew ?_))); (case side2 => exact HC12001_5.out); rintro e w8 ⟨rfl, hb⟩; refine ⟨_, rfl, ?_⟩; have n0_ := mk (below_step (by repeat (first | (with_reducible first | exact HB.out | apply below_alloc | apply pw_below_drewN | apply below_drew1) | exact HB.out)) hb); clear HB; have HB := n0_; clear n0_; (try clear hb); (try clear hb2); (try clear hk); (try clear hi)))
       go_ret
       exact ⟨by first | rfl | (simp [errW_none, errW_some] <;> rfl) | (simp [*, errW_none, errW_some] <;> rfl), by repeat (first | (with_reducible first | exact HB.out | apply below_alloc | apply pw_below_drewN | apply below_drew1) | exact HB.out)⟩
      ·rw [if_neg c7] at H
       have c7b0 : decide (t12002 < 0) = false := decide_eq_false c7
       clear c7
       have H' := mk H
       clear H
       have p12001 : 0 ≤ (x5_1 : Int) := of_decide_eq_true (by first | (with_reducible assumption) | assumption)
       have q12001 : x5_1 < (l0.length : Int) := of_decide_eq_true (by first | (with_reducible assumption) | assumption)
       obtain ⟨ad12001, A12001_5, c12001_5, e12001, hx12001_0, hx12001_1, hx12001_2, hx12001_3, hx12001_4, hx12001_5, hl12001_5, hi12001_5⟩ := at_T57 HR0.out x5_1 p12001 q12001
       cases e12001
       replace hx12001_0 := (HB.out.cell (World.block_lt_of_cell? w _ hx12001_0)).trans hx12001_0
       replace hx12001_1 := (HB.out.cell (World.block_lt_of_cell? w _ hx12001_1)).trans hx12001_1
       replace hx12001_2 := (HB.out.cell (World.block_lt_of_cell? w _ hx12001_2)).trans hx12001_2
       replace hx12001_3 := (HB.out.cell (World.block_lt_of_cell? w _ hx12001_3)).trans hx12001_3
       replace hx12001_4 := (HB.out.cell (World.block_lt_of_cell? w _ hx12001_4)).trans hx12001_4
       replace hx12001_5 := (HB.out.cell (World.block_lt_of_cell? w _ hx12001_5)).trans hx12001_5
       have HR12001_5 := mk hi12001_5
       have HC12001_5 := mk hl12001_5
       clear hi12001_5 hl12001_5
       replace p12001 := eq_true p12001
       replace q12001 := eq_true q12001
       go_wp2_with (first | ((with_reducible refine gate_callee (f := 32) rfl ?_); refine goesL_ (some 23) rfl rfl Try.func32 (by kernel_rfl) rfl #[.agg #[.int .i64 ((rd_T57 l0 x5_1).f0), .int .i64 ((rd_T57 l0 x5_1).f1.f0), .int .i64 ((rd_T57 l0 x5_1).f1.f1), .int .i64 ((rd_T57 l0 x5_1).f1.f2), .int .i64 ((rd_T57 l0 x5_1).f1.f3), .slice A12001_5 ((rd_T57 l0 x5_1).f2).length c12001_5], .int .i64 x1_1] rfl (by (try simp only [List.map_toArray, List.map_cons, List.map_nil]); first | done | rfl | (simp only [List.length_drop, List.length_take]; rfl)) ?_; (with_reducible refine (laws_szStep.calls ((rd_T57 l0 x5_1).f0) ((rd_T57 l0 x5_1).f1.f0) ((rd_T57 l0 x5_1).f1.f1) ((rd_T57 l0 x5_1).f1.f2) ((rd_T57 l0 x5_1).f1.f3) _ _ ((rd_T57 l0 x5_1).f2) x1_1 t12002 _ ?side1 ?side2 A6.out).mono ?_); (case side1 => repeat (first | exact (Kd.C_below HR12001_5.out HB.out) | (with_reducible refine Kd.C_alloc ?_ _) | (with_reducible refine Kd.C_drewN ?_ _) | (with_reducible refine Kd.C_drew ?_))); (case side2 => exact HC12001_5.out); rintro e w9 ⟨rfl, hb⟩; refine ⟨_, rfl, ?_⟩; have n0_ := mk (below_step (by repeat (first | (with_reducible first | exact HB.out | apply below_alloc | apply pw_below_drewN | apply below_drew1) | exact HB.out)) hb); clear HB; have HB := n0_; clear n0_; (try clear hb); (try clear hb2); (try clear hk); (try clear hi)))
       go_roundg k1
       case measure => have := HK1.out; omega
       case rel => exact ⟨(t12002), (wrap64 (x5_1 + 1)), (by first | rfl | (simp; done) | (simp [*]; done)), (by first | rfl | (simp; done) | (simp [*]; done)), H', ⟨by have := HK1.out; omega⟩, ⟨by repeat (first | (with_reducible first | exact HB.out | apply below_alloc | apply pw_below_drewN | apply below_drew1) | exact HB.out)⟩⟩
     ·rw [if_neg c5] at H
      exact absurd H (by simp)
    ·rw [if_neg c4] at H
     have c4b0 : decide (x5_1 < (l0.length : Int)) = false := decide_eq_false c4
     clear c4
     obtain rfl := Option.some.inj H
     go_wp2
     go_ret
     exact ⟨by first | rfl | (simp [errW_none, errW_some] <;> rfl) | (simp [*, errW_none, errW_some] <;> rfl), by repeat (first | (with_reducible first | exact HB.out | apply below_alloc | apply pw_below_drewN | apply below_drew1) | exact HB.out)⟩


def laws_toBox.f (a0_0 : Int) (a0_1 : Int) (a0_2 : Int) (a0_3 : Int) : Option (Int × Int × Int × Int) := some (a0_0, a0_1, a0_2, a0_3)
set_option maxHeartbeats 8000000 in
set_option maxRecDepth 100000 in
theorem laws_toBox.calls (a0_0 : Int) (a0_1 : Int) (a0_2 : Int) (a0_3 : Int) (r1 : Int) (r2 : Int) (r3 : Int) (r4 : Int) (w : World) (h : laws_toBox.f a0_0 a0_1 a0_2 a0_3 = some (r1, r2, r3, r4)) :
  Calls Try.prog 64 #[.agg #[.int .i64 a0_0, .int .i64 a0_1, .int .i64 a0_2, .int .i64 a0_3]] w fun e w' => e = .returned (.agg #[.int .i64 r1, .int .i64 r2, .int .i64 r3, .int .i64 r4]) ∧ Below w.heap.size w w' := by
 have hu55 := Try.underlying55
 have hu41 := Try.underlying41
 have HB := mk (Below.refl w.heap.size w)
 have H : (some (a0_0, a0_1, a0_2, a0_3)) = some (r1, r2, r3, r4) := h
 clear h
 simp only [Option.some.injEq, Prod.mk.injEq] at H
 obtain ⟨rfl, rfl, rfl, rfl⟩ := H
 go_enter Try.func64, Try.ntmps64
 go_wp2_with (first | ((with_reducible refine gate_dst (N := 1) rfl ?_); refine box_event ?hg (N := 1) ?hd (cs := #[.int .i64 a0_0, .int .i64 a0_1, .int .i64 a0_2, .int .i64 a0_3]) (t := 55) ?hr ?_; (case hd => rfl); (case hg => rfl); (case hr => first | (go_simp; done) | (go_simp; rfl)); intro gb65001 hg w2 hbox hb; have n0_ := mk (below_step (by repeat (first | (with_reducible first | exact HB.out | apply below_alloc | apply pw_below_drewN | apply below_drew1) | exact HB.out)) hb); have n1_ := mk (hbox); have n2_ := mk ((by rw [hg]; exact (below_size (by repeat (first | (with_reducible first | exact HB.out | apply below_alloc | apply pw_below_drewN | apply below_drew1) | exact HB.out))) : w.heap.size ≤ gb65001)); have n3_ := mk ((by rw [hg]; exact (below_size (by repeat (first | (with_reducible first | exact HB.out | apply below_alloc | apply pw_below_drewN | apply below_drew1) | exact HB.out))) : w.heap.size ≤ gb65001)); clear HB; have HB := n0_; have BK65001 := n1_; have GW65001 := n2_; have GE65001 := n3_; clear n0_ n1_ n2_ n3_; clear hb hbox hg) | ((with_reducible refine gate_dst (N := 2) rfl ?_); refine box_event ?hg (N := 2) ?hd (cs := #[.int .i64 0, .int .i64 0, .int .i64 0, .int .i64 0]) (t := 41) ?hr ?_; (case hd => rfl); (case hg => rfl); (case hr => first | (go_simp; done) | (go_simp; rfl)); intro gb65002 hg w3 hbox hb; have n0_ := mk (blk_below (g := gb65001) (o := .cells #[.int .i64 a0_0, .int .i64 a0_1, .int .i64 a0_2, .int .i64 a0_3] 55 (0, 0)) (by (with_reducible repeat (first | refine blk_drewN ?_ _ | refine blk_drew ?_ | refine blk_alloc ?_ _)); exact BK65001.out) hb); have n1_ := mk (below_step (by repeat (first | (with_reducible first | exact HB.out | apply below_alloc | apply pw_below_drewN | apply below_drew1 | refine below_set ?_ GE65001.out) | exact HB.out)) hb); have n2_ := mk (hbox); have n3_ := mk ((by rw [hg]; exact (below_size (by repeat (first | (with_reducible first | exact HB.out | apply below_alloc | apply pw_below_drewN | apply below_drew1 | refine below_set ?_ GE65001.out) | exact HB.out))) : w.heap.size ≤ gb65002)); have n4_ := mk ((by rw [hg]; exact (below_size (by repeat (first | (with_reducible first | exact HB.out | apply below_alloc | apply pw_below_drewN | apply below_drew1 | refine below_set ?_ GE65001.out) | exact HB.out))) : w.heap.size ≤ gb65002)); have n5_ := mk ((by rw [hg]; exact Nat.ne_of_lt (blk_lt (g := gb65001) (o := .cells #[.int .i64 a0_0, .int .i64 a0_1, .int .i64 a0_2, .int .i64 a0_3] 55 (0, 0)) (by (with_reducible repeat (first | refine blk_drewN ?_ _ | refine blk_drew ?_ | refine blk_alloc ?_ _)); exact BK65001.out)) : gb65001 ≠ gb65002)); have n6_ := mk ((by rw [hg]; exact Nat.ne_of_gt (blk_lt (g := gb65001) (o := .cells #[.int .i64 a0_0, .int .i64 a0_1, .int .i64 a0_2, .int .i64 a0_3] 55 (0, 0)) (by (with_reducible repeat (first | refine blk_drewN ?_ _ | refine blk_drew ?_ | refine blk_alloc ?_ _)); exact BK65001.out)) : gb65002 ≠ gb65001)); clear BK65001; clear HB; have BK65001 := n0_; have HB := n1_; have BK65002 := n2_; have GW65002 := n3_; have GE65002 := n4_; have NB65001_65002 := n5_; have NB65002_65001 := n6_; clear n0_ n1_ n2_ n3_ n4_ n5_ n6_; clear hb hbox hg) | ((with_reducible refine gate_dst (N := 3) rfl ?_); refine box_event ?hg (N := 3) ?hd (cs := #[.int .i64 0, .int .i64 0, .int .i64 0, .int .i64 0]) (t := 41) ?hr ?_; (case hd => rfl); (case hg => rfl); (case hr => first | (go_simp; done) | (go_simp; rfl)); intro gb65003 hg w4 hbox hb; have n0_ := mk (blk_below (g := gb65001) (o := .cells #[.int .i64 a0_0, .int .i64 a0_1, .int .i64 a0_2, .int .i64 a0_3] 55 (0, 0)) (by (with_reducible repeat (first | refine blk_drewN ?_ _ | refine blk_drew ?_ | refine blk_alloc ?_ _)); exact BK65001.out) hb); have n1_ := mk (blk_below (g := gb65002) (o := .cells #[.int .i64 0, .int .i64 0, .int .i64 0, .int .i64 0] 41 (0, 0)) (by (with_reducible repeat (first | refine blk_drewN ?_ _ | refine blk_drew ?_ | refine blk_alloc ?_ _)); exact BK65002.out) hb); have n2_ := mk (below_step (by repeat (first | (with_reducible first | exact HB.out | apply below_alloc | apply pw_below_drewN | apply below_drew1 | refine below_set ?_ GE65001.out | refine below_set ?_ GE65002.out) | exact HB.out)) hb); have n3_ := mk (hbox); have n4_ := mk ((by rw [hg]; exact (below_size (by repeat (first | (with_reducible first | exact HB.out | apply below_alloc | apply pw_below_drewN | apply below_drew1 | refine below_set ?_ GE65001.out | refine below_set ?_ GE65002.out) | exact HB.out))) : w.heap.size ≤ gb65003)); have n5_ := mk ((by rw [hg]; exact (below_size (by repeat (first | (with_reducible first | exact HB.out | apply below_alloc | apply pw_below_drewN | apply below_drew1 | refine below_set ?_ GE65001.out | refine below_set ?_ GE65002.out) | exact HB.out))) : w.heap.size ≤ gb65003)); have n6_ := mk ((by rw [hg]; exact Nat.ne_of_lt (blk_lt (g := gb65001) (o := .cells #[.int .i64 a0_0, .int .i64 a0_1, .int .i64 a0_2, .int .i64 a0_3] 55 (0, 0)) (by (with_reducible repeat (first | refine blk_drewN ?_ _ | refine blk_drew ?_ | refine blk_alloc ?_ _)); exact BK65001.out)) : gb65001 ≠ gb65003)); have n7_ := mk ((by rw [hg]; exact Nat.ne_of_gt (blk_lt (g := gb65001) (o := .cells #[.int .i64 a0_0, .int .i64 a0_1, .int .i64 a0_2, .int .i64 a0_3] 55 (0, 0)) (by (with_reducible repeat (first | refine blk_drewN ?_ _ | refine blk_drew ?_ | refine blk_alloc ?_ _)); exact BK65001.out)) : gb65003 ≠ gb65001)); have n8_ := mk ((by rw [hg]; exact Nat.ne_of_lt (blk_lt (g := gb65002) (o := .cells #[.int .i64 0, .int .i64 0, .int .i64 0, .int .i64 0] 41 (0, 0)) (by (with_reducible repeat (first | refine blk_drewN ?_ _ | refine blk_drew ?_ | refine blk_alloc ?_ _)); exact BK65002.out)) : gb65002 ≠ gb65003)); have n9_ := mk ((by rw [hg]; exact Nat.ne_of_gt (blk_lt (g := gb65002) (o := .cells #[.int .i64 0, .int .i64 0, .int .i64 0, .int .i64 0] 41 (0, 0)) (by (with_reducible repeat (first | refine blk_drewN ?_ _ | refine blk_drew ?_ | refine blk_alloc ?_ _)); exact BK65002.out)) : gb65003 ≠ gb65002)); clear BK65001; clear BK65002; clear HB; have BK65001 := n0_; have BK65002 := n1_; have HB := n2_; have BK65003 := n3_; have GW65003 := n4_; have GE65003 := n5_; have NB65001_65003 := n6_; have NB65003_65001 := n7_; have NB65002_65003 := n8_; have NB65003_65002 := n9_; clear n0_ n1_ n2_ n3_ n4_ n5_ n6_ n7_ n8_ n9_; clear hb hbox hg; have hnb5 := NB65001_65002.out; have hnc5 := NB65002_65001.out; have hnb6 := NB65001_65003.out; have hnc6 := NB65003_65001.out; have hcz7_0 : w4.cell? ⟨gb65001, 0, none⟩ = some (.int .i64 a0_0) := (blk_cell BK65001.out 0).trans rfl; have hcz7_1 : w4.cell? ⟨gb65001, 1, none⟩ = some (.int .i64 a0_1) := (blk_cell BK65001.out 1).trans rfl; have hcz7_2 : w4.cell? ⟨gb65001, 2, none⟩ = some (.int .i64 a0_2) := (blk_cell BK65001.out 2).trans rfl; have hcz7_3 : w4.cell? ⟨gb65001, 3, none⟩ = some (.int .i64 a0_3) := (blk_cell BK65001.out 3).trans rfl; have hfz7_0 := blk_frozen BK65001.out 0; have hfz7_1 := blk_frozen BK65001.out 1; have hfz7_2 := blk_frozen BK65001.out 2; have hfz7_3 := blk_frozen BK65001.out 3; have hnb8 := NB65003_65002.out; have hnc8 := NB65002_65003.out; have hcz9_0 : w4.cell? ⟨gb65003, 0, none⟩ = some (.int .i64 0) := (blk_cell BK65003.out 0).trans rfl; have hcz9_1 : w4.cell? ⟨gb65003, 1, none⟩ = some (.int .i64 0) := (blk_cell BK65003.out 1).trans rfl; have hcz9_2 : w4.cell? ⟨gb65003, 2, none⟩ = some (.int .i64 0) := (blk_cell BK65003.out 2).trans rfl; have hcz9_3 : w4.cell? ⟨gb65003, 3, none⟩ = some (.int .i64 0) := (blk_cell BK65003.out 3).trans rfl; have hfz9_0 := blk_frozen BK65003.out 0; have hfz9_1 := blk_frozen BK65003.out 1; have hfz9_2 := blk_frozen BK65003.out 2; have hfz9_3 := blk_frozen BK65003.out 3; have hcz10_0 : w4.cell? ⟨gb65002, 0, none⟩ = some (.int .i64 0) := (blk_cell BK65002.out 0).trans rfl; have hcz10_1 : w4.cell? ⟨gb65002, 1, none⟩ = some (.int .i64 0) := (blk_cell BK65002.out 1).trans rfl; have hcz10_2 : w4.cell? ⟨gb65002, 2, none⟩ = some (.int .i64 0) := (blk_cell BK65002.out 2).trans rfl; have hcz10_3 : w4.cell? ⟨gb65002, 3, none⟩ = some (.int .i64 0) := (blk_cell BK65002.out 3).trans rfl; have hfz10_0 := blk_frozen BK65002.out 0; have hfz10_1 := blk_frozen BK65002.out 1; have hfz10_2 := blk_frozen BK65002.out 2; have hfz10_3 := blk_frozen BK65002.out 3))
 refine bodyPost_ret (results_cell_row rfl _ _ gb65002 41 #[.int .i64 a0_0, .int .i64 a0_1, .int .i64 a0_2, .int .i64 a0_3] (0, 0) _ rfl (by (with_reducible repeat (first | refine blk_drewN ?_ _ | refine blk_drew ?_ | refine blk_alloc ?_ _)); refine blk_put (cs := #[.int .i64 a0_0, .int .i64 a0_1, .int .i64 a0_2, .int .i64 0]) ?_ 3 _ rfl; (with_reducible repeat (first | refine blk_drewN ?_ _ | refine blk_drew ?_ | refine blk_alloc ?_ _)); refine blk_put (cs := #[.int .i64 a0_0, .int .i64 a0_1, .int .i64 0, .int .i64 0]) ?_ 2 _ rfl; (with_reducible repeat (first | refine blk_drewN ?_ _ | refine blk_drew ?_ | refine blk_alloc ?_ _)); refine blk_put (cs := #[.int .i64 a0_0, .int .i64 0, .int .i64 0, .int .i64 0]) ?_ 1 _ rfl; (with_reducible repeat (first | refine blk_drewN ?_ _ | refine blk_drew ?_ | refine blk_alloc ?_ _)); refine blk_put (cs := #[.int .i64 0, .int .i64 0, .int .i64 0, .int .i64 0]) ?_ 0 _ rfl; (with_reducible repeat (first | refine blk_drewN ?_ _ | refine blk_drew ?_ | refine blk_alloc ?_ _)); refine blk_far ?_ NB65002_65003.out _; (with_reducible repeat (first | refine blk_drewN ?_ _ | refine blk_drew ?_ | refine blk_alloc ?_ _)); refine blk_far ?_ NB65002_65003.out _; (with_reducible repeat (first | refine blk_drewN ?_ _ | refine blk_drew ?_ | refine blk_alloc ?_ _)); refine blk_far ?_ NB65002_65003.out _; (with_reducible repeat (first | refine blk_drewN ?_ _ | refine blk_drew ?_ | refine blk_alloc ?_ _)); refine blk_far ?_ NB65002_65003.out _; (with_reducible repeat (first | refine blk_drewN ?_ _ | refine blk_drew ?_ | refine blk_alloc ?_ _)); exact BK65002.out) Try.underlying41 rfl (by kernel_rfl)) rfl ?_
 exact ⟨by first | rfl | (simp [errW_none, errW_some] <;> rfl) | (simp [*, errW_none, errW_some] <;> rfl), by repeat (first | (with_reducible first | exact HB.out | apply below_alloc | apply pw_below_drewN | apply below_drew1 | refine below_set ?_ GE65001.out | refine below_set ?_ GE65002.out | refine below_set ?_ GE65003.out) | exact HB.out)⟩

end Go.Proofs.Ytgccpcnakkioiaa.Q
