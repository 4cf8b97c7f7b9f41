/- A part of the proof that the statement FnExactChangedRegionSaid holds, under no condition of its own: The program's ChangedRegion and the reference's return the same, and what is returned is held by nobody else: over lists of numbers alone. -/
import Derived.Test.YtbgohbinonkhfaaCFnExactChangedRegion1
import Derived.Test.YtbgohbinonkhfaaCFnExactChangedRegion2
import Derived.Deep.Slices
import Derived.Deep.Fields
import Derived.ChangeSame
import Derived.ProofKit
import Derived.OpenShut
import Derived.ShutString
import Derived.ChangeOld
import Derived.SizedLaws
import GoSem.Claim
namespace Go.Proofs.Ytbgohbinonkhfaa.Q
open Go.RowKit Go.Proofs.YtbgohbinonkhfaaW.PrintWords Go.Proofs.YtbgohbinonkhfaaW.PrintLast Go.Proofs.YtbgohbinonkhfaaW.PrintMore
attribute [local go_sem] max2_int min2_int max_two min_two max_three min_three max_four min_four
set_option linter.unusedVariables false
set_option linter.unusedSimpArgs false
/-! ### laws_markRunS: function 18 -/
def laws_markRunS.l0 : Nat → List (S47) → Int → Int → Option (Int × (List (S47)))
  | 0, _, _, _ => none
  | k + 1, x0, x1, x5 => if x5 < (x0.length : Int) then (if 0 ≤ x5 then ((some (x0.set (x5 : Int).toNat (⟨x1, (rd_T47 x0 x5).f1, (rd_T47 x0 x5).f2⟩ : S47) : List (S47))).bind fun y19001 => ((some (y19001.set (x5 : Int).toNat (⟨(rd_T47 y19001 x5).f0, wrap64 (x1 + 1), (rd_T47 y19001 x5).f2⟩ : S47) : List (S47))).bind fun y19002 => (laws_markRunS.l0 k (y19002.set (x5 : Int).toNat (⟨(rd_T47 y19002 x5).f0, (rd_T47 y19002 x5).f1, wrap64 ((wrap64 (x1 + 1)) + 1)⟩ : S47)) (wrap64 ((wrap64 ((wrap64 (x1 + 1)) + 1)) + 1)) (wrap64 (x5 + 1))))) else (none)) else (some (x1, x0))
def laws_markRunS.f (k : Nat) (l0 : List (S47)) (a1 : Int) : Option (Int × (List (S47))) := laws_markRunS.l0 k l0 a1 0
theorem laws_markRunS.mono_l : ∀ k, (∀ y0 y1 y2, LeO (laws_markRunS.l0 k y0 y1 y2) (laws_markRunS.l0 (k + 1) y0 y1 y2))
  | 0 => fun _ _ _ r h => by simp [laws_markRunS.l0] at h
  | k + 1 => by
    have ih0 := laws_markRunS.mono_l k
    · intro y0 y1 y2
      unfold laws_markRunS.l0
      repeat' first
      | (with_reducible exact ih0 _ _ _)
      | (with_reducible exact LeO.refl _)
      | (with_reducible exact LeO.none _)
      | (with_reducible refine LeO.ite ?_ ?_)
      | (with_reducible refine LeO.bind ?_ (fun _ => ?_))
      | exact ih0 _ _ _
      | exact LeO.none _
      | refine LeO.ite ?_ ?_
      | refine LeO.bind ?_ (fun _ => ?_)
theorem laws_markRunS.mono : ∀ a0 a1 k, LeO (laws_markRunS.f k a0 a1) (laws_markRunS.f (k + 1) a0 a1) := by
  intro a0 a1 k
  have ih0 := laws_markRunS.mono_l k
  unfold laws_markRunS.f
  repeat' first
      | (with_reducible exact ih0 _ _ _)
      | (with_reducible exact LeO.refl _)
      | (with_reducible exact LeO.none _)
      | (with_reducible refine LeO.ite ?_ ?_)
      | (with_reducible refine LeO.bind ?_ (fun _ => ?_))
      | exact ih0 _ _ _
      | exact LeO.none _
      | refine LeO.ite ?_ ?_
      | refine LeO.bind ?_ (fun _ => ?_)
set_option maxHeartbeats 8000000 in
set_option maxRecDepth 100000 in
theorem laws_markRunS.calls (k : Nat) (P0_ : Nat → Prop) (u9000_ : Value) (l0 : List (S47)) (a1 : Int) (r1 : Int) (r2 : List (S47)) (w0 w : World) (hB : Below w0.heap.size w0 w) (ho0 : Kd.R k47 47 w w0.heap.size P0_ u9000_ l0) (h : laws_markRunS.f k l0 a1 = some (r1, r2)) :
    Calls Try.prog 18 #[u9000_, .int .i64 a1] w fun e w' => e = .returned (.int .i64 r1) ∧ Kd.R k47 47 w' w0.heap.size (fun k_ => (P0_ k_ ∨ w.heap.size ≤ k_)) u9000_ r2 ∧ Below w0.heap.size w0 w' ∧ Kept w w' (fun k_ => P0_ k_) := by
  have HO0 := Aside0.mk (show Kd.R k47 47 w w0.heap.size (fun k_ => (P0_ k_ ∨ w.heap.size ≤ k_)) u9000_ l0 from Kd.R_mono ho0 (fun k_ hk => (.inl hk)))
  have HK := Aside0.mk (Kept.refl w (fun k_ => P0_ k_))
  have HW0 := Aside0.mk hB.size
  have HB := Aside0.mk hB
  clear hB
  have H : (laws_markRunS.l0 k l0 a1 0) = some (r1, r2) := h
  clear h
  have H' := Aside0.mk H
  clear H
  go_enter Try.func18, Try.ntmps18
  go_wp2
  go_loopg [1, 5] k (fun kq v1 v5 w' => ∃ (x0_1 : List (S47)) (x1_1 : Int) (x5_1 : Int), v1 = .int .i64 x1_1 ∧ v5 = .int .i64 x5_1 ∧ Aside0 (laws_markRunS.l0 kq x0_1 x1_1 x5_1 = some (r1, r2)) ∧ Aside0 (kq ≤ k) ∧ Aside0 (Kd.R k47 47 w' w0.heap.size (fun k_ => (P0_ k_ ∨ w.heap.size ≤ k_)) u9000_ x0_1) ∧ Aside0 (Kept w w' (fun k_ => P0_ k_)) ∧ Aside0 (Below w0.heap.size w0 w'))
  case atStart => exact ⟨(l0), (a1), (0), (by first | rfl | (simp; done) | (simp [*]; done)), (by first | rfl | (simp; done) | (simp [*]; done)), H', ⟨Nat.le_refl _⟩, ⟨by (with_reducible repeat (first | apply Kd.R_alloc | apply Kd.R_drewN | apply Kd.R_drew)); exact HO0.out⟩, ⟨by repeat (first | (with_reducible first | exact HK.out | apply Kept.alloc | apply Kept.drewN | apply Kept.drew) | exact HK.out)⟩, ⟨by repeat (first | (with_reducible first | exact HB.out | apply below_alloc | apply pw_below_drewN | apply below_drew1) | exact HB.out)⟩⟩
  case round =>
    clear H'
    try clear c1
    try clear p2
    obtain ⟨x0_1, x1_1, x5_1, rfl, rfl, HA, HK1, HO_0, HK, HB⟩ := hrel
    cases gk with
    | zero => exact absurd HA.out (by simp [laws_markRunS.l0])
    | succ k1 =>
      have H := HA.out
      clear HA
      simp only [laws_markRunS.l0] at H
      by_cases c3 : x5_1 < (x0_1.length : Int)
      · rw [if_pos c3] at H
        have c3b0 : decide (x5_1 < (x0_1.length : Int)) = true := decide_eq_true c3
        clear c3
        by_cases c4 : 0 ≤ x5_1
        · rw [if_pos c4] at H
          have c4b0 : decide (0 ≤ x5_1) = true := decide_eq_true c4
          clear c4
          obtain ⟨y19001, hy19001⟩ : ∃ y_ : List (S47), y_ = (x0_1.set (x5_1 : Int).toNat (⟨x1_1, (rd_T47 x0_1 x5_1).f1, (rd_T47 x0_1 x5_1).f2⟩ : S47)) := ⟨_, rfl⟩
          replace H : ((some (y19001.set (x5_1 : Int).toNat (⟨(rd_T47 y19001 x5_1).f0, wrap64 (x1_1 + 1), (rd_T47 y19001 x5_1).f2⟩ : S47) : List (S47))).bind fun y19002 => (laws_markRunS.l0 k1 (y19002.set (x5_1 : Int).toNat (⟨(rd_T47 y19002 x5_1).f0, (rd_T47 y19002 x5_1).f1, wrap64 ((wrap64 (x1_1 + 1)) + 1)⟩ : S47)) (wrap64 ((wrap64 ((wrap64 (x1_1 + 1)) + 1)) + 1)) (wrap64 (x5_1 + 1)))) = some (r1, r2) := by first | (rw [hy19001]; with_reducible exact H) | (have H2_ := (Option.bind_some _ _).symm.trans H; rw [hy19001]; with_reducible exact H2_) | (have H2_ := (Option.bind_some _ _).symm.trans H; with_reducible exact H2_) | with_reducible exact H | (rw [hy19001]; exact H) | exact H
          have Ny19001 := Aside0.mk hy19001
          clear hy19001
          obtain ⟨y19002, hy19002⟩ : ∃ y_ : List (S47), y_ = (y19001.set (x5_1 : Int).toNat (⟨(rd_T47 y19001 x5_1).f0, wrap64 (x1_1 + 1), (rd_T47 y19001 x5_1).f2⟩ : S47)) := ⟨_, rfl⟩
          replace H : (laws_markRunS.l0 k1 (y19002.set (x5_1 : Int).toNat (⟨(rd_T47 y19002 x5_1).f0, (rd_T47 y19002 x5_1).f1, wrap64 ((wrap64 (x1_1 + 1)) + 1)⟩ : S47)) (wrap64 ((wrap64 ((wrap64 (x1_1 + 1)) + 1)) + 1)) (wrap64 (x5_1 + 1))) = some (r1, r2) := by first | (rw [hy19002]; with_reducible exact H) | (have H2_ := (Option.bind_some _ _).symm.trans H; rw [hy19002]; with_reducible exact H2_) | (have H2_ := (Option.bind_some _ _).symm.trans H; with_reducible exact H2_) | with_reducible exact H | (rw [hy19002]; exact H) | exact H
          have Ny19002 := Aside0.mk hy19002
          clear hy19002
          obtain ⟨y19003, hy19003⟩ : ∃ y_ : List (S47), y_ = (y19002.set (x5_1 : Int).toNat (⟨(rd_T47 y19002 x5_1).f0, (rd_T47 y19002 x5_1).f1, wrap64 ((wrap64 (x1_1 + 1)) + 1)⟩ : S47)) := ⟨_, rfl⟩
          replace H : (laws_markRunS.l0 k1 y19003 (wrap64 ((wrap64 ((wrap64 (x1_1 + 1)) + 1)) + 1)) (wrap64 (x5_1 + 1))) = some (r1, r2) := by first | (rw [hy19003]; with_reducible exact H) | (have H2_ := (Option.bind_some _ _).symm.trans H; rw [hy19003]; with_reducible exact H2_) | (have H2_ := (Option.bind_some _ _).symm.trans H; with_reducible exact H2_) | with_reducible exact H | (rw [hy19003]; exact H) | exact H
          have Ny19003 := Aside0.mk hy19003
          clear hy19003
          have H' := Aside0.mk H
          clear H
          obtain ⟨Ao8, co8, eo8⟩ := Kd.R_slice HO_0.out
          subst eo8
          have p5 : 0 ≤ (x5_1 : Int) := of_decide_eq_true (by first | (with_reducible assumption) | assumption)
          have q5 : (x5_1 : Int) < ((x0_1.length : Int) : Int) := of_decide_eq_true (by first | (with_reducible assumption) | assumption)
          obtain ⟨go5, co5, eo5, gb5, gl5, cl5, HG5⟩ := Kd.R_form HO_0.out (by omega)
          (first | cases eo5 | (injection eo5 with ea_ en_ ec_; (first | subst ea_ | (injection ea_ with ea_; subst ea_)); subst ec_; clear en_))
          have GB5 := Aside0.mk gb5
          have GG5 := Aside0.mk HG5
          clear gb5 gl5 HG5
          have HMgo5 := Aside0.mk (show (P0_ go5 ∨ w.heap.size ≤ go5) from (HO_0.out.1 _ rfl))
          obtain ⟨ce5, hcl5, hM5, hcc5, hfr5⟩ := Kd.R_elem HO_0.out z47 (x5_1 : Int) p5 q5
          obtain rfl := k47_openM hM5
          have hx5_0 : wr.cell? ⟨go5, (x5_1 : Int).toNat * 3, none⟩ = some (.int .i64 ((rd_T47 x0_1 x5_1).f0)) := hcc5 0 _ rfl
          have hx5_1 : wr.cell? ⟨go5, (x5_1 : Int).toNat * 3 + 1, none⟩ = some (.int .i64 ((rd_T47 x0_1 x5_1).f1)) := hcc5 1 _ rfl
          have hx5_2 : wr.cell? ⟨go5, (x5_1 : Int).toNat * 3 + 2, none⟩ = some (.int .i64 ((rd_T47 x0_1 x5_1).f2)) := hcc5 2 _ rfl
          have hf5_0 : wr.frozen? ⟨go5, (x5_1 : Int).toNat * 3, none⟩ = false := hfr5 0
          have hf5_1 : wr.frozen? ⟨go5, (x5_1 : Int).toNat * 3 + 1, none⟩ = false := hfr5 1
          have hf5_2 : wr.frozen? ⟨go5, (x5_1 : Int).toNat * 3 + 2, none⟩ = false := hfr5 2
          clear hcl5 hcc5 hfr5 hM5
          replace p5 := eq_true p5
          replace q5 := eq_true q5
          have HX9 := Aside0.mk (show Kd.R k47 47 wr w0.heap.size (fun k_ => (P0_ k_ ∨ w.heap.size ≤ k_)) (.slice (some ⟨go5, 0, none⟩) x0_1.length co8) x0_1 from (by (with_reducible repeat (first | apply Kd.R_alloc | apply Kd.R_drewN | apply Kd.R_drew)); exact HO_0.out))
          obtain ⟨ce9, hcl9, hM9, hcc9, hfr9⟩ := Kd.R_elem HX9.out z47 (x5_1 : Int) (of_decide_eq_true (by first | (with_reducible assumption) | assumption)) (by have h_ : (x5_1 : Int) < ((x0_1.length : Int) : Int) := of_decide_eq_true (by first | (with_reducible assumption) | assumption); first | exact h_ | (have e_ := (Kd.R_reads' HO_0.out).1; omega) | simpa using h_)
          obtain rfl := k47_openM hM9
          have HP9 := Kd.R_seg HX9.out (x5_1 : Int) (of_decide_eq_true (by first | (with_reducible assumption) | assumption)) (by have h_ : (x5_1 : Int) < ((x0_1.length : Int) : Int) := of_decide_eq_true (by first | (with_reducible assumption) | assumption); first | exact h_ | (have e_ := (Kd.R_reads' HO_0.out).1; omega) | simpa using h_) (seg := [.int .i64 x1_1]) (j := 0) hcl9 hcc9 (show 1 ≤ 3 from by decide) (x' := (⟨x1_1, (rd_T47 x0_1 x5_1).f1, (rd_T47 x0_1 x5_1).f2⟩ : S47)) (k47_mkM _ _ _ (⟨x1_1, (rd_T47 x0_1 x5_1).f1, (rd_T47 x0_1 x5_1).f2⟩ : S47) ) (fun _ hk => hk)
          have hx9_0 := hcc9 0 _ rfl
          (try simp only [show (k47).sz = 3 from rfl, Nat.mul_one, Nat.add_zero] at hx9_0)
          have hf9_0 := hfr9 0
          (try simp only [show (k47).sz = 3 from rfl, Nat.mul_one, Nat.add_zero] at hf9_0)
          clear hcl9 hcc9 hfr9 hM9
          go_wp2_with (first | ((with_reducible refine gate_store (t := 3) (p := 16) rfl ?_); refine store_event (t := 3) (p := 16) (v := ?vo_w10) (w1 := (wr.setCell ⟨go5, (x5_1 : Int).toNat * 3, none⟩ (.int .i64 x1_1))) ?hg ?ho ?hn ?hr ?_; (case ho => rfl); (case hg => rfl); (case hn => rfl); (case hr => first | (go_simp; done) | (go_simp; rfl)); intro w10 hw; have hg : wr.grownBy w10 (some go5) := (by rw [hw]; exact HP9.2); have hp_ : Kd.R k47 47 w10 w0.heap.size (fun k_ => (P0_ k_ ∨ w.heap.size ≤ k_)) (.slice (some ⟨go5, 0, none⟩) x0_1.length co8) y19001 := (by rw [hw, Ny19001.out]; exact HP9.1); clear HP9; have n0_ := Aside0.mk (hp_); have n1_ := Aside0.mk ((by rw [hw]; exact below_set (HB.out) GB5.out : Below w0.heap.size w0 w10)); have n2_ := Aside0.mk (Kept.of_grown (S := (fun k_ => P0_ k_)) hg (by repeat (first | (with_reducible first | exact HK.out | apply Kept.alloc | apply Kept.drewN | apply Kept.drew) | exact HK.out)) (fun k_ e_ => (HO_0.out.1 k_ e_))); clear HO_0; clear HB; clear HK; have HO_0 := n0_; have HB := n1_; have HK := n2_; clear n0_ n1_ n2_; clear hg hw hp_; have p6 : 0 ≤ (x5_1 : Int) := of_decide_eq_true (by first | (with_reducible assumption) | assumption); have q6 : (x5_1 : Int) < ((x0_1.length : Int) : Int) := of_decide_eq_true (by first | (with_reducible assumption) | assumption); obtain ⟨ce6, hcl6, hM6, hcc6, hfr6⟩ := Kd.R_elem HO_0.out z47 (x5_1 : Int) p6 q6; obtain rfl := k47_openM hM6; have hx6_0 : w10.cell? ⟨go5, (x5_1 : Int).toNat * 3, none⟩ = some (.int .i64 ((rd_T47 y19001 x5_1).f0)) := hcc6 0 _ rfl; have hx6_1 : w10.cell? ⟨go5, (x5_1 : Int).toNat * 3 + 1, none⟩ = some (.int .i64 ((rd_T47 y19001 x5_1).f1)) := hcc6 1 _ rfl; have hx6_2 : w10.cell? ⟨go5, (x5_1 : Int).toNat * 3 + 2, none⟩ = some (.int .i64 ((rd_T47 y19001 x5_1).f2)) := hcc6 2 _ rfl; have hf6_0 : w10.frozen? ⟨go5, (x5_1 : Int).toNat * 3, none⟩ = false := hfr6 0; have hf6_1 : w10.frozen? ⟨go5, (x5_1 : Int).toNat * 3 + 1, none⟩ = false := hfr6 1; have hf6_2 : w10.frozen? ⟨go5, (x5_1 : Int).toNat * 3 + 2, none⟩ = false := hfr6 2; clear hcl6 hcc6 hfr6 hM6; replace p6 := eq_true p6; replace q6 := eq_true q6; have HX11 := Aside0.mk (show Kd.R k47 47 w10 w0.heap.size (fun k_ => (P0_ k_ ∨ w.heap.size ≤ k_)) (.slice (some ⟨go5, 0, none⟩) x0_1.length co8) y19001 from (by (with_reducible repeat (first | apply Kd.R_alloc | apply Kd.R_drewN | apply Kd.R_drew)); exact HO_0.out)); obtain ⟨ce11, hcl11, hM11, hcc11, hfr11⟩ := Kd.R_elem HX11.out z47 (x5_1 : Int) (of_decide_eq_true (by first | (with_reducible assumption) | assumption)) (by have h_ : (x5_1 : Int) < ((x0_1.length : Int) : Int) := of_decide_eq_true (by first | (with_reducible assumption) | assumption); first | exact h_ | (have e_ := (Kd.R_reads' HO_0.out).1; omega) | simpa using h_); obtain rfl := k47_openM hM11; have HP11 := Kd.R_seg HX11.out (x5_1 : Int) (of_decide_eq_true (by first | (with_reducible assumption) | assumption)) (by have h_ : (x5_1 : Int) < ((x0_1.length : Int) : Int) := of_decide_eq_true (by first | (with_reducible assumption) | assumption); first | exact h_ | (have e_ := (Kd.R_reads' HO_0.out).1; omega) | simpa using h_) (seg := [.int .i64 (wrap64 (x1_1 + 1))]) (j := 1) hcl11 hcc11 (show 2 ≤ 3 from by decide) (x' := (⟨(rd_T47 y19001 x5_1).f0, wrap64 (x1_1 + 1), (rd_T47 y19001 x5_1).f2⟩ : S47)) (k47_mkM _ _ _ (⟨(rd_T47 y19001 x5_1).f0, wrap64 (x1_1 + 1), (rd_T47 y19001 x5_1).f2⟩ : S47) ) (fun _ hk => hk); have hx11_1 := hcc11 1 _ rfl; (try simp only [show (k47).sz = 3 from rfl, Nat.mul_one, Nat.add_zero] at hx11_1); have hf11_1 := hfr11 1; (try simp only [show (k47).sz = 3 from rfl, Nat.mul_one, Nat.add_zero] at hf11_1); clear hcl11 hcc11 hfr11 hM11) | ((with_reducible refine gate_store (t := 3) (p := 23) rfl ?_); refine store_event (t := 3) (p := 23) (v := ?vo_w12) (w1 := (w10.setCell ⟨go5, (x5_1 : Int).toNat * 3 + 1, none⟩ (.int .i64 (wrap64 (x1_1 + 1))))) ?hg ?ho ?hn ?hr ?_; (case ho => rfl); (case hg => rfl); (case hn => rfl); (case hr => first | (go_simp; done) | (go_simp; rfl)); intro w12 hw; have hg : w10.grownBy w12 (some go5) := (by rw [hw]; exact HP11.2); have hp_ : Kd.R k47 47 w12 w0.heap.size (fun k_ => (P0_ k_ ∨ w.heap.size ≤ k_)) (.slice (some ⟨go5, 0, none⟩) x0_1.length co8) y19002 := (by rw [hw, Ny19002.out]; exact HP11.1); clear HP11; have n0_ := Aside0.mk (hp_); have n1_ := Aside0.mk ((by rw [hw]; exact below_set (HB.out) GB5.out : Below w0.heap.size w0 w12)); have n2_ := Aside0.mk (Kept.of_grown (S := (fun k_ => P0_ k_)) hg (by repeat (first | (with_reducible first | exact HK.out | apply Kept.alloc | apply Kept.drewN | apply Kept.drew) | exact HK.out)) (fun k_ e_ => (HO_0.out.1 k_ e_))); clear HO_0; clear HB; clear HK; have HO_0 := n0_; have HB := n1_; have HK := n2_; clear n0_ n1_ n2_; clear hg hw hp_; have p7 : 0 ≤ (x5_1 : Int) := of_decide_eq_true (by first | (with_reducible assumption) | assumption); have q7 : (x5_1 : Int) < ((x0_1.length : Int) : Int) := of_decide_eq_true (by first | (with_reducible assumption) | assumption); obtain ⟨ce7, hcl7, hM7, hcc7, hfr7⟩ := Kd.R_elem HO_0.out z47 (x5_1 : Int) p7 q7; obtain rfl := k47_openM hM7; have hx7_0 : w12.cell? ⟨go5, (x5_1 : Int).toNat * 3, none⟩ = some (.int .i64 ((rd_T47 y19002 x5_1).f0)) := hcc7 0 _ rfl; have hx7_1 : w12.cell? ⟨go5, (x5_1 : Int).toNat * 3 + 1, none⟩ = some (.int .i64 ((rd_T47 y19002 x5_1).f1)) := hcc7 1 _ rfl; have hx7_2 : w12.cell? ⟨go5, (x5_1 : Int).toNat * 3 + 2, none⟩ = some (.int .i64 ((rd_T47 y19002 x5_1).f2)) := hcc7 2 _ rfl; have hf7_0 : w12.frozen? ⟨go5, (x5_1 : Int).toNat * 3, none⟩ = false := hfr7 0; have hf7_1 : w12.frozen? ⟨go5, (x5_1 : Int).toNat * 3 + 1, none⟩ = false := hfr7 1; have hf7_2 : w12.frozen? ⟨go5, (x5_1 : Int).toNat * 3 + 2, none⟩ = false := hfr7 2; clear hcl7 hcc7 hfr7 hM7; replace p7 := eq_true p7; replace q7 := eq_true q7; have HX13 := Aside0.mk (show Kd.R k47 47 w12 w0.heap.size (fun k_ => (P0_ k_ ∨ w.heap.size ≤ k_)) (.slice (some ⟨go5, 0, none⟩) x0_1.length co8) y19002 from (by (with_reducible repeat (first | apply Kd.R_alloc | apply Kd.R_drewN | apply Kd.R_drew)); exact HO_0.out)); obtain ⟨ce13, hcl13, hM13, hcc13, hfr13⟩ := Kd.R_elem HX13.out z47 (x5_1 : Int) (of_decide_eq_true (by first | (with_reducible assumption) | assumption)) (by have h_ : (x5_1 : Int) < ((x0_1.length : Int) : Int) := of_decide_eq_true (by first | (with_reducible assumption) | assumption); first | exact h_ | (have e_ := (Kd.R_reads' HO_0.out).1; omega) | simpa using h_); obtain rfl := k47_openM hM13; have HP13 := Kd.R_seg HX13.out (x5_1 : Int) (of_decide_eq_true (by first | (with_reducible assumption) | assumption)) (by have h_ : (x5_1 : Int) < ((x0_1.length : Int) : Int) := of_decide_eq_true (by first | (with_reducible assumption) | assumption); first | exact h_ | (have e_ := (Kd.R_reads' HO_0.out).1; omega) | simpa using h_) (seg := [.int .i64 (wrap64 ((wrap64 (x1_1 + 1)) + 1))]) (j := 2) hcl13 hcc13 (show 3 ≤ 3 from by decide) (x' := (⟨(rd_T47 y19002 x5_1).f0, (rd_T47 y19002 x5_1).f1, wrap64 ((wrap64 (x1_1 + 1)) + 1)⟩ : S47)) (k47_mkM _ _ _ (⟨(rd_T47 y19002 x5_1).f0, (rd_T47 y19002 x5_1).f1, wrap64 ((wrap64 (x1_1 + 1)) + 1)⟩ : S47) ) (fun _ hk => hk); have hx13_2 := hcc13 2 _ rfl; (try simp only [show (k47).sz = 3 from rfl, Nat.mul_one, Nat.add_zero] at hx13_2); have hf13_2 := hfr13 2; (try simp only [show (k47).sz = 3 from rfl, Nat.mul_one, Nat.add_zero] at hf13_2); clear hcl13 hcc13 hfr13 hM13) | ((with_reducible refine gate_store (t := 3) (p := 30) rfl ?_); refine store_event (t := 3) (p := 30) (v := ?vo_w14) (w1 := (w12.setCell ⟨go5, (x5_1 : Int).toNat * 3 + 2, none⟩ (.int .i64 (wrap64 ((wrap64 (x1_1 + 1)) + 1))))) ?hg ?ho ?hn ?hr ?_; (case ho => rfl); (case hg => rfl); (case hn => rfl); (case hr => first | (go_simp; done) | (go_simp; rfl)); intro w14 hw; have hg : w12.grownBy w14 (some go5) := (by rw [hw]; exact HP13.2); have hp_ : Kd.R k47 47 w14 w0.heap.size (fun k_ => (P0_ k_ ∨ w.heap.size ≤ k_)) (.slice (some ⟨go5, 0, none⟩) x0_1.length co8) y19003 := (by rw [hw, Ny19003.out]; exact HP13.1); clear HP13; have n0_ := Aside0.mk (hp_); have n1_ := Aside0.mk ((by rw [hw]; exact below_set (HB.out) GB5.out : Below w0.heap.size w0 w14)); have n2_ := Aside0.mk (Kept.of_grown (S := (fun k_ => P0_ k_)) hg (by repeat (first | (with_reducible first | exact HK.out | apply Kept.alloc | apply Kept.drewN | apply Kept.drew) | exact HK.out)) (fun k_ e_ => (HO_0.out.1 k_ e_))); clear HO_0; clear HB; clear HK; have HO_0 := n0_; have HB := n1_; have HK := n2_; clear n0_ n1_ n2_; clear hg hw hp_))
          go_roundg k1
          case measure => have := HK1.out; omega
          case rel => exact ⟨(y19003), (wrap64 ((wrap64 ((wrap64 (x1_1 + 1)) + 1)) + 1)), (wrap64 (x5_1 + 1)), (by first | rfl | (simp; done) | (simp [*]; done)), (by first | rfl | (simp; done) | (simp [*]; done)), H', ⟨by have := HK1.out; omega⟩, ⟨by (with_reducible repeat (first | apply Kd.R_alloc | apply Kd.R_drewN | apply Kd.R_drew)); exact HO_0.out⟩, ⟨by repeat (first | (with_reducible first | exact HK.out | apply Kept.alloc | apply Kept.drewN | apply Kept.drew) | exact HK.out)⟩, ⟨by repeat (first | (with_reducible first | exact HB.out | apply below_alloc | apply pw_below_drewN | apply below_drew1) | exact HB.out)⟩⟩
        · rw [if_neg c4] at H
          exact absurd H (by simp)
      · rw [if_neg c3] at H
        have c3b0 : decide (x5_1 < (x0_1.length : Int)) = false := decide_eq_false c3
        clear c3
        simp only [Option.some.injEq, Prod.mk.injEq] at H
        obtain ⟨rfl, rfl⟩ := H
        obtain ⟨Ao15, co15, eo15⟩ := Kd.R_slice HO_0.out
        subst eo15
        go_wp2
        go_ret
        exact ⟨by first | rfl | (simp [errW_none, errW_some] <;> rfl) | (simp [*, errW_none, errW_some] <;> rfl), by (with_reducible repeat (first | apply Kd.R_alloc | apply Kd.R_drewN | apply Kd.R_drew)); exact HO_0.out, by repeat (first | (with_reducible first | exact HB.out | apply below_alloc | apply pw_below_drewN | apply below_drew1) | exact HB.out), by repeat (first | (with_reducible first | exact HK.out | apply Kept.alloc | apply Kept.drewN | apply Kept.drew) | exact HK.out)⟩

end Go.Proofs.Ytbgohbinonkhfaa.Q

namespace Go.Proofs.Ytbgohbinonkhfaa.Q
open Go.RowKit Go.Proofs.YtbgohbinonkhfaaW.PrintWords Go.Proofs.YtbgohbinonkhfaaW.PrintLast Go.Proofs.YtbgohbinonkhfaaW.PrintMore
attribute [local go_sem] max2_int min2_int max_two min_two max_three min_three max_four min_four
set_option linter.unusedVariables false
set_option linter.unusedSimpArgs false
/-! ### laws_heldRunS: function 19 -/
def laws_heldRunS.l0 : Nat → List (S47) → Int → Int → Option (Int)
  | 0, _, _, _ => none
  | k + 1, x0, x1, x5 => if x5 < (x0.length : Int) then (if 0 ≤ x5 then (if ((rd_T47 x0 x5).f0) = x1 then (if ((rd_T47 x0 x5).f1) = (wrap64 (x1 + 1)) then (if ((rd_T47 x0 x5).f2) = (wrap64 ((wrap64 (x1 + 1)) + 1)) then (laws_heldRunS.l0 k x0 (wrap64 ((wrap64 ((wrap64 (x1 + 1)) + 1)) + 1)) (wrap64 (x5 + 1))) else (some (-1))) else (some (-1))) else (some (-1))) else (none)) else (some x1)
def laws_heldRunS.f (k : Nat) (l0 : List (S47)) (a1 : Int) : Option (Int) := laws_heldRunS.l0 k l0 a1 0
theorem laws_heldRunS.mono_l : ∀ k, (∀ y0 y1 y2, LeO (laws_heldRunS.l0 k y0 y1 y2) (laws_heldRunS.l0 (k + 1) y0 y1 y2))
  | 0 => fun _ _ _ r h => by simp [laws_heldRunS.l0] at h
  | k + 1 => by
    have ih0 := laws_heldRunS.mono_l k
    · intro y0 y1 y2
      unfold laws_heldRunS.l0
      repeat' first
      | (with_reducible exact ih0 _ _ _)
      | (with_reducible exact LeO.refl _)
      | (with_reducible exact LeO.none _)
      | (with_reducible refine LeO.ite ?_ ?_)
      | (with_reducible refine LeO.bind ?_ (fun _ => ?_))
      | exact ih0 _ _ _
      | exact LeO.none _
      | refine LeO.ite ?_ ?_
      | refine LeO.bind ?_ (fun _ => ?_)
theorem laws_heldRunS.mono : ∀ a0 a1 k, LeO (laws_heldRunS.f k a0 a1) (laws_heldRunS.f (k + 1) a0 a1) := by
  intro a0 a1 k
  have ih0 := laws_heldRunS.mono_l k
  unfold laws_heldRunS.f
  repeat' first
      | (with_reducible exact ih0 _ _ _)
      | (with_reducible exact LeO.refl _)
      | (with_reducible exact LeO.none _)
      | (with_reducible refine LeO.ite ?_ ?_)
      | (with_reducible refine LeO.bind ?_ (fun _ => ?_))
      | exact ih0 _ _ _
      | exact LeO.none _
      | refine LeO.ite ?_ ?_
      | refine LeO.bind ?_ (fun _ => ?_)
set_option maxHeartbeats 8000000 in
set_option maxRecDepth 100000 in
theorem laws_heldRunS.calls (k : Nat) (A0 : Option Addr) (c0 : Nat) (l0 : List (S47)) (a1 : Int) (r : Int) (w : World) (hr0 : Kd.C k47 w A0 l0.length l0) (hc0 : l0.length ≤ c0) (h : laws_heldRunS.f k l0 a1 = some r) :
    Calls Try.prog 19 #[.slice A0 l0.length c0, .int .i64 a1] w fun e w' => e = .returned (.int .i64 r) ∧ Drawn0 w w' := by
  have HR0 := Aside0.mk hr0
  have HC0 := Aside0.mk hc0
  clear hr0 hc0
  have H : (laws_heldRunS.l0 k l0 a1 0) = some r := h
  clear h
  have H' := Aside0.mk H
  clear H
  go_enter Try.func19, Try.ntmps19
  go_wp2
  go_loopg [1, 5] k (fun kq v1 v5 w' => ∃ (x1_1 : Int) (x5_1 : Int), v1 = .int .i64 x1_1 ∧ v5 = .int .i64 x5_1 ∧ Aside0 (laws_heldRunS.l0 kq l0 x1_1 x5_1 = some r) ∧ Aside0 (kq ≤ k) ∧ Drawn0 w w')
  case atStart => exact ⟨(a1), (0), (by first | rfl | (simp; done) | (simp [*]; done)), (by first | rfl | (simp; done) | (simp [*]; done)), H', ⟨Nat.le_refl _⟩, by repeat (first | exact Drawn0.refl _ | apply Drawn0.step)⟩
  case round =>
    clear H'
    try clear c1
    try clear p2
    obtain ⟨x1_1, x5_1, rfl, rfl, HA, HK1, ⟨m1, rfl⟩⟩ := hrel
    cases gk with
    | zero => exact absurd HA.out (by simp [laws_heldRunS.l0])
    | succ k1 =>
      have H := HA.out
      clear HA
      simp only [laws_heldRunS.l0] at H
      by_cases c3 : x5_1 < (l0.length : Int)
      · rw [if_pos c3] at H
        have c3b0 : decide (x5_1 < (l0.length : Int)) = true := decide_eq_true c3
        clear c3
        by_cases c4 : 0 ≤ x5_1
        · rw [if_pos c4] at H
          have c4b0 : decide (0 ≤ x5_1) = true := decide_eq_true c4
          clear c4
          by_cases c5 : ((rd_T47 l0 x5_1).f0) = x1_1
          · rw [if_pos c5] at H
            have c5b0 : (((rd_T47 l0 x5_1).f0) == x1_1) = true := beq_iff_eq.mpr c5
            have c5b1 : (((rd_T47 l0 x5_1).f0) != x1_1) = false := bne_eq_false_iff_eq.mpr c5
            clear c5
            by_cases c6 : ((rd_T47 l0 x5_1).f1) = (wrap64 (x1_1 + 1))
            · rw [if_pos c6] at H
              have c6b0 : (((rd_T47 l0 x5_1).f1) == (wrap64 (x1_1 + 1))) = true := beq_iff_eq.mpr c6
              have c6b1 : (((rd_T47 l0 x5_1).f1) != (wrap64 (x1_1 + 1))) = false := bne_eq_false_iff_eq.mpr c6
              clear c6
              by_cases c7 : ((rd_T47 l0 x5_1).f2) = (wrap64 ((wrap64 (x1_1 + 1)) + 1))
              · rw [if_pos c7] at H
                have c7b0 : (((rd_T47 l0 x5_1).f2) == (wrap64 ((wrap64 (x1_1 + 1)) + 1))) = true := beq_iff_eq.mpr c7
                have c7b1 : (((rd_T47 l0 x5_1).f2) != (wrap64 ((wrap64 (x1_1 + 1)) + 1))) = false := bne_eq_false_iff_eq.mpr c7
                clear c7
                have H' := Aside0.mk H
                clear H
                have p20001 : 0 ≤ (x5_1 : Int) := of_decide_eq_true (by first | (with_reducible assumption) | assumption)
                have q20001 : x5_1 < (l0.length : Int) := of_decide_eq_true (by first | (with_reducible assumption) | assumption)
                obtain ⟨ad20001, e20001, hx20001_0, hx20001_1, hx20001_2⟩ := at_T47 HR0.out x5_1 p20001 q20001
                cases e20001
                replace p20001 := eq_true p20001
                replace q20001 := eq_true q20001
                have p20002 : 0 ≤ (x5_1 : Int) := of_decide_eq_true (by first | (with_reducible assumption) | assumption)
                have q20002 : x5_1 < (l0.length : Int) := of_decide_eq_true (by first | (with_reducible assumption) | assumption)
                obtain ⟨ad20002, e20002, hx20002_0, hx20002_1, hx20002_2⟩ := at_T47 HR0.out x5_1 p20002 q20002
                obtain rfl : ad20001 = ad20002 := (by injection e20002)
                replace p20002 := eq_true p20002
                replace q20002 := eq_true q20002
                have p20003 : 0 ≤ (x5_1 : Int) := of_decide_eq_true (by first | (with_reducible assumption) | assumption)
                have q20003 : x5_1 < (l0.length : Int) := of_decide_eq_true (by first | (with_reducible assumption) | assumption)
                obtain ⟨ad20003, e20003, hx20003_0, hx20003_1, hx20003_2⟩ := at_T47 HR0.out x5_1 p20003 q20003
                obtain rfl : ad20001 = ad20003 := (by injection e20003)
                replace p20003 := eq_true p20003
                replace q20003 := eq_true q20003
                go_wp2
                go_roundg k1
                case measure => have := HK1.out; omega
                case rel => exact ⟨(wrap64 ((wrap64 ((wrap64 (x1_1 + 1)) + 1)) + 1)), (wrap64 (x5_1 + 1)), (by first | rfl | (simp; done) | (simp [*]; done)), (by first | rfl | (simp; done) | (simp [*]; done)), H', ⟨by have := HK1.out; omega⟩, by repeat (first | exact Drawn0.refl _ | apply Drawn0.step)⟩
              · rw [if_neg c7] at H
                have c7b0 : (((rd_T47 l0 x5_1).f2) == (wrap64 ((wrap64 (x1_1 + 1)) + 1))) = false := beq_eq_false_iff_ne.mpr c7
                have c7b1 : (((rd_T47 l0 x5_1).f2) != (wrap64 ((wrap64 (x1_1 + 1)) + 1))) = true := bne_iff_ne.mpr c7
                obtain rfl := Option.some.inj H
                have p20001 : 0 ≤ (x5_1 : Int) := of_decide_eq_true (by first | (with_reducible assumption) | assumption)
                have q20001 : x5_1 < (l0.length : Int) := of_decide_eq_true (by first | (with_reducible assumption) | assumption)
                obtain ⟨ad20001, e20001, hx20001_0, hx20001_1, hx20001_2⟩ := at_T47 HR0.out x5_1 p20001 q20001
                cases e20001
                replace p20001 := eq_true p20001
                replace q20001 := eq_true q20001
                have p20002 : 0 ≤ (x5_1 : Int) := of_decide_eq_true (by first | (with_reducible assumption) | assumption)
                have q20002 : x5_1 < (l0.length : Int) := of_decide_eq_true (by first | (with_reducible assumption) | assumption)
                obtain ⟨ad20002, e20002, hx20002_0, hx20002_1, hx20002_2⟩ := at_T47 HR0.out x5_1 p20002 q20002
                obtain rfl : ad20001 = ad20002 := (by injection e20002)
                replace p20002 := eq_true p20002
                replace q20002 := eq_true q20002
                have p20003 : 0 ≤ (x5_1 : Int) := of_decide_eq_true (by first | (with_reducible assumption) | assumption)
                have q20003 : x5_1 < (l0.length : Int) := of_decide_eq_true (by first | (with_reducible assumption) | assumption)
                obtain ⟨ad20003, e20003, hx20003_0, hx20003_1, hx20003_2⟩ := at_T47 HR0.out x5_1 p20003 q20003
                obtain rfl : ad20001 = ad20003 := (by injection e20003)
                replace p20003 := eq_true p20003
                replace q20003 := eq_true q20003
                go_wp2
                go_ret
                exact ⟨by first | rfl | (simp; done) | (simp [*]; done), by repeat (first | exact Drawn0.refl _ | apply Drawn0.step)⟩
            · rw [if_neg c6] at H
              have c6b0 : (((rd_T47 l0 x5_1).f1) == (wrap64 (x1_1 + 1))) = false := beq_eq_false_iff_ne.mpr c6
              have c6b1 : (((rd_T47 l0 x5_1).f1) != (wrap64 (x1_1 + 1))) = true := bne_iff_ne.mpr c6
              obtain rfl := Option.some.inj H
              have p20001 : 0 ≤ (x5_1 : Int) := of_decide_eq_true (by first | (with_reducible assumption) | assumption)
              have q20001 : x5_1 < (l0.length : Int) := of_decide_eq_true (by first | (with_reducible assumption) | assumption)
              obtain ⟨ad20001, e20001, hx20001_0, hx20001_1, hx20001_2⟩ := at_T47 HR0.out x5_1 p20001 q20001
              cases e20001
              replace p20001 := eq_true p20001
              replace q20001 := eq_true q20001
              have p20002 : 0 ≤ (x5_1 : Int) := of_decide_eq_true (by first | (with_reducible assumption) | assumption)
              have q20002 : x5_1 < (l0.length : Int) := of_decide_eq_true (by first | (with_reducible assumption) | assumption)
              obtain ⟨ad20002, e20002, hx20002_0, hx20002_1, hx20002_2⟩ := at_T47 HR0.out x5_1 p20002 q20002
              obtain rfl : ad20001 = ad20002 := (by injection e20002)
              replace p20002 := eq_true p20002
              replace q20002 := eq_true q20002
              go_wp2
              go_ret
              exact ⟨by first | rfl | (simp; done) | (simp [*]; done), by repeat (first | exact Drawn0.refl _ | apply Drawn0.step)⟩
          · rw [if_neg c5] at H
            have c5b0 : (((rd_T47 l0 x5_1).f0) == x1_1) = false := beq_eq_false_iff_ne.mpr c5
            have c5b1 : (((rd_T47 l0 x5_1).f0) != x1_1) = true := bne_iff_ne.mpr c5
            obtain rfl := Option.some.inj H
            have p20001 : 0 ≤ (x5_1 : Int) := of_decide_eq_true (by first | (with_reducible assumption) | assumption)
            have q20001 : x5_1 < (l0.length : Int) := of_decide_eq_true (by first | (with_reducible assumption) | assumption)
            obtain ⟨ad20001, e20001, hx20001_0, hx20001_1, hx20001_2⟩ := at_T47 HR0.out x5_1 p20001 q20001
            cases e20001
            replace p20001 := eq_true p20001
            replace q20001 := eq_true q20001
            go_wp2
            go_ret
            exact ⟨by first | rfl | (simp; done) | (simp [*]; done), by repeat (first | exact Drawn0.refl _ | apply Drawn0.step)⟩
        · rw [if_neg c4] at H
          exact absurd H (by simp)
      · rw [if_neg c3] at H
        have c3b0 : decide (x5_1 < (l0.length : Int)) = false := decide_eq_false c3
        clear c3
        obtain rfl := Option.some.inj H
        go_wp2
        go_ret
        exact ⟨by first | rfl | (simp; done) | (simp [*]; done), by repeat (first | exact Drawn0.refl _ | apply Drawn0.step)⟩

end Go.Proofs.Ytbgohbinonkhfaa.Q

namespace Go.Proofs.Ytbgohbinonkhfaa.Q
open Go.RowKit Go.Proofs.YtbgohbinonkhfaaW.PrintWords Go.Proofs.YtbgohbinonkhfaaW.PrintLast Go.Proofs.YtbgohbinonkhfaaW.PrintMore
attribute [local go_sem] max2_int min2_int max_two min_two max_three min_three max_four min_four
set_option linter.unusedVariables false
set_option linter.unusedSimpArgs false
/-! ### laws_FnExactChangedRegion: function 3 -/
def laws_FnExactChangedRegion.j0 : Nat → List (S47) → List (S47) → Bool → Int → Int → Int → List Int → Int → Int → Int → List Int → Option (Bool)
  | 0, _, _, _, _, _, _, _, _, _, _, _ => none
  | k + 1, x6, x9, x63, x4002000, x4002001, x4002002, x4002003, x4003000, x4003001, x4003002, x4003003 => if x63 = true then (some false) else ((laws_markRunS.f k x9 1).bind fun bt4057 => ((laws_heldRunS.f k bt4057.2 1).bind fun t4059 => (if t4059 < 0 then (some false) else (if t4059 = bt4057.1 then ((laws_toImage.f k x4002000 x4002001 x4002002 x4002003).bind fun bt4060 => ((laws_toImage.f k x4003000 x4003001 x4003002 x4003003).bind fun bt4066 => ((impl_ChangedRegion.f bt4060.1 bt4060.2.1 bt4060.2.2.1 bt4060.2.2.2 bt4066.1 bt4066.2.1 bt4066.2.2.1 bt4066.2.2.2).bind fun t4072 => ((laws_eqRunS.f k t4072 x6).bind fun t4075 => (if t4075 = true then ((laws_heldRunS.f k bt4057.2 1).bind fun t4076 => (if t4076 < 0 then (some false) else (if t4076 = bt4057.1 then (some true) else (some false)))) else (some false)))))) else (some false)))))
def laws_FnExactChangedRegion.f (k : Nat) (a0_0 : Int) (a0_1 : Int) (a0_2 : Int) (l0_3 : List Int) (a1_0 : Int) (a1_1 : Int) (a1_2 : Int) (l1_3 : List Int) : Option (Bool) := (laws_szImage.f a0_0 a0_1 a0_2 l0_3 1048576).bind fun t4003 => (if t4003 < 0 then (some true) else ((laws_szImage.f a1_0 a1_1 a1_2 l1_3 t4003).bind fun t4004 => (if t4004 < 0 then (some true) else ((laws_toImage.f k a0_0 a0_1 a0_2 l0_3).bind fun bt4005 => ((laws_toImage.f k a1_0 a1_1 a1_2 l1_3).bind fun bt4011 => ((spec_ChangedRegion.f k bt4005.1 bt4005.2.1 bt4005.2.2.1 bt4005.2.2.2 bt4011.1 bt4011.2.1 bt4011.2.2.1 bt4011.2.2.2).bind fun t4017 => ((laws_toImage.f k a0_0 a0_1 a0_2 l0_3).bind fun bt4020 => ((laws_toImage.f k a1_0 a1_1 a1_2 l1_3).bind fun bt4027 => ((impl_ChangedRegion.f bt4020.1 bt4020.2.1 bt4020.2.2.1 bt4020.2.2.2 bt4027.1 bt4027.2.1 bt4027.2.2.1 bt4027.2.2.2).bind fun t4034 => ((laws_eqRunS.f k t4034 t4017).bind fun t4037 => (if t4037 = true then ((laws_toImage.f k a0_0 a0_1 a0_2 l0_3).bind fun bt4038 => ((laws_eqImage.f k bt4020.1 bt4020.2.1 bt4020.2.2.1 bt4020.2.2.2 bt4038.1 bt4038.2.1 bt4038.2.2.1 bt4038.2.2.2).bind fun t4044 => (if t4044 = true then ((laws_toImage.f k a1_0 a1_1 a1_2 l1_3).bind fun bt4045 => ((laws_eqImage.f k bt4027.1 bt4027.2.1 bt4027.2.2.1 bt4027.2.2.2 bt4045.1 bt4045.2.1 bt4045.2.2.1 bt4045.2.2.2).bind fun t4051 => (if t4051 = true then ((laws_markImage.f k bt4020.1 bt4020.2.1 bt4020.2.2.1 bt4020.2.2.2 1).bind fun bt4052 => ((laws_markImage.f k bt4027.1 bt4027.2.1 bt4027.2.2.1 bt4027.2.2.2 bt4052.1).bind fun bt4054 => (if bt4054.1 < 0 then (laws_FnExactChangedRegion.j0 k t4017 t4034 true a0_0 a0_1 a0_2 l0_3 a1_0 a1_1 a1_2 l1_3) else ((laws_eqRunS.f k t4034 t4017).bind fun t4056 => (laws_FnExactChangedRegion.j0 k t4017 t4034 (!t4056) a0_0 a0_1 a0_2 l0_3 a1_0 a1_1 a1_2 l1_3))))) else (some false)))) else (some false)))) else (some false))))))))))))
theorem laws_FnExactChangedRegion.mono_l : ∀ k, (∀ y0 y1 y2 y3 y4 y5 y6 y7 y8 y9 y10, LeO (laws_FnExactChangedRegion.j0 k y0 y1 y2 y3 y4 y5 y6 y7 y8 y9 y10) (laws_FnExactChangedRegion.j0 (k + 1) y0 y1 y2 y3 y4 y5 y6 y7 y8 y9 y10))
  | 0 => fun _ _ _ _ _ _ _ _ _ _ _ r h => by simp [laws_FnExactChangedRegion.j0] at h
  | k + 1 => by
    have ih0 := laws_FnExactChangedRegion.mono_l k
    · intro y0 y1 y2 y3 y4 y5 y6 y7 y8 y9 y10
      unfold laws_FnExactChangedRegion.j0
      repeat' first
      | (with_reducible exact ih0 _ _ _ _ _ _ _ _ _ _ _)
      | (with_reducible exact laws_eqImage.mono _ _ _ _ _ _ _ _ _)
      | (with_reducible exact laws_eqRunS.mono _ _ _)
      | (with_reducible exact laws_heldRunS.mono _ _ _)
      | (with_reducible exact laws_markImage.mono _ _ _ _ _ _)
      | (with_reducible exact laws_markRunS.mono _ _ _)
      | (with_reducible exact laws_toImage.mono _ _ _ _ _)
      | (with_reducible exact spec_ChangedRegion.mono _ _ _ _ _ _ _ _ _)
      | (with_reducible exact LeO.refl _)
      | (with_reducible exact LeO.none _)
      | (with_reducible refine LeO.ite ?_ ?_)
      | (with_reducible refine LeO.bind ?_ (fun _ => ?_))
      | exact ih0 _ _ _ _ _ _ _ _ _ _ _
      | exact laws_eqImage.mono _ _ _ _ _ _ _ _ _
      | exact laws_eqRunS.mono _ _ _
      | exact laws_heldRunS.mono _ _ _
      | exact laws_markImage.mono _ _ _ _ _ _
      | exact laws_markRunS.mono _ _ _
      | exact laws_toImage.mono _ _ _ _ _
      | exact spec_ChangedRegion.mono _ _ _ _ _ _ _ _ _
      | exact LeO.none _
      | refine LeO.ite ?_ ?_
      | refine LeO.bind ?_ (fun _ => ?_)
theorem laws_FnExactChangedRegion.mono : ∀ a0 a1 a2 a3 a4 a5 a6 a7 k, LeO (laws_FnExactChangedRegion.f k a0 a1 a2 a3 a4 a5 a6 a7) (laws_FnExactChangedRegion.f (k + 1) a0 a1 a2 a3 a4 a5 a6 a7) := by
  intro a0 a1 a2 a3 a4 a5 a6 a7 k
  have ih0 := laws_FnExactChangedRegion.mono_l k
  unfold laws_FnExactChangedRegion.f
  repeat' first
      | (with_reducible exact ih0 _ _ _ _ _ _ _ _ _ _ _)
      | (with_reducible exact laws_eqImage.mono _ _ _ _ _ _ _ _ _)
      | (with_reducible exact laws_eqRunS.mono _ _ _)
      | (with_reducible exact laws_heldRunS.mono _ _ _)
      | (with_reducible exact laws_markImage.mono _ _ _ _ _ _)
      | (with_reducible exact laws_markRunS.mono _ _ _)
      | (with_reducible exact laws_toImage.mono _ _ _ _ _)
      | (with_reducible exact spec_ChangedRegion.mono _ _ _ _ _ _ _ _ _)
      | (with_reducible exact LeO.refl _)
      | (with_reducible exact LeO.none _)
      | (with_reducible refine LeO.ite ?_ ?_)
      | (with_reducible refine LeO.bind ?_ (fun _ => ?_))
      | exact ih0 _ _ _ _ _ _ _ _ _ _ _
      | exact laws_eqImage.mono _ _ _ _ _ _ _ _ _
      | exact laws_eqRunS.mono _ _ _
      | exact laws_heldRunS.mono _ _ _
      | exact laws_markImage.mono _ _ _ _ _ _
      | exact laws_markRunS.mono _ _ _
      | exact laws_toImage.mono _ _ _ _ _
      | exact spec_ChangedRegion.mono _ _ _ _ _ _ _ _ _
      | exact LeO.none _
      | refine LeO.ite ?_ ?_
      | refine LeO.bind ?_ (fun _ => ?_)
set_option maxHeartbeats 8000000 in
set_option maxRecDepth 100000 in
theorem laws_FnExactChangedRegion.calls (k : Nat) (a0_0 : Int) (a0_1 : Int) (a0_2 : Int) (A0_3 : Option Addr) (c0_3 : Nat) (l0_3 : List Int) (a1_0 : Int) (a1_1 : Int) (a1_2 : Int) (A1_3 : Option Addr) (c1_3 : Nat) (l1_3 : List Int) (r : Bool) (w : World) (hr0_3 : Kd.C (Kd.int .i64) w A0_3 l0_3.length l0_3) (hc0_3 : l0_3.length ≤ c0_3) (hr1_3 : Kd.C (Kd.int .i64) w A1_3 l1_3.length l1_3) (hc1_3 : l1_3.length ≤ c1_3) (h : laws_FnExactChangedRegion.f k a0_0 a0_1 a0_2 l0_3 a1_0 a1_1 a1_2 l1_3 = some r) (hrt : r = true) :
    Calls Try.prog 3 #[.agg #[.int .i64 a0_0, .int .i64 a0_1, .int .i64 a0_2, .slice A0_3 l0_3.length c0_3], .agg #[.int .i64 a1_0, .int .i64 a1_1, .int .i64 a1_2, .slice A1_3 l1_3.length c1_3]] w fun e w' => e = .returned (.bool r) ∧ Below w.heap.size w w' := by
  have HRT := Aside0.mk hrt
  clear hrt
  have hu24 := Try.underlying24
  have hu28 := Try.underlying28
  have HR0_3 := Aside0.mk hr0_3
  have HC0_3 := Aside0.mk hc0_3
  clear hr0_3 hc0_3
  have HR1_3 := Aside0.mk hr1_3
  have HC1_3 := Aside0.mk hc1_3
  clear hr1_3 hc1_3
  have HB := Aside0.mk (Below.refl w.heap.size w)
  have H : ((laws_szImage.f a0_0 a0_1 a0_2 l0_3 1048576).bind fun t4003 => (if t4003 < 0 then (some true) else ((laws_szImage.f a1_0 a1_1 a1_2 l1_3 t4003).bind fun t4004 => (if t4004 < 0 then (some true) else ((laws_toImage.f k a0_0 a0_1 a0_2 l0_3).bind fun bt4005 => ((laws_toImage.f k a1_0 a1_1 a1_2 l1_3).bind fun bt4011 => ((spec_ChangedRegion.f k bt4005.1 bt4005.2.1 bt4005.2.2.1 bt4005.2.2.2 bt4011.1 bt4011.2.1 bt4011.2.2.1 bt4011.2.2.2).bind fun t4017 => ((laws_toImage.f k a0_0 a0_1 a0_2 l0_3).bind fun bt4020 => ((laws_toImage.f k a1_0 a1_1 a1_2 l1_3).bind fun bt4027 => ((impl_ChangedRegion.f bt4020.1 bt4020.2.1 bt4020.2.2.1 bt4020.2.2.2 bt4027.1 bt4027.2.1 bt4027.2.2.1 bt4027.2.2.2).bind fun t4034 => ((laws_eqRunS.f k t4034 t4017).bind fun t4037 => (if t4037 = true then ((laws_toImage.f k a0_0 a0_1 a0_2 l0_3).bind fun bt4038 => ((laws_eqImage.f k bt4020.1 bt4020.2.1 bt4020.2.2.1 bt4020.2.2.2 bt4038.1 bt4038.2.1 bt4038.2.2.1 bt4038.2.2.2).bind fun t4044 => (if t4044 = true then ((laws_toImage.f k a1_0 a1_1 a1_2 l1_3).bind fun bt4045 => ((laws_eqImage.f k bt4027.1 bt4027.2.1 bt4027.2.2.1 bt4027.2.2.2 bt4045.1 bt4045.2.1 bt4045.2.2.1 bt4045.2.2.2).bind fun t4051 => (if t4051 = true then ((laws_markImage.f k bt4020.1 bt4020.2.1 bt4020.2.2.1 bt4020.2.2.2 1).bind fun bt4052 => ((laws_markImage.f k bt4027.1 bt4027.2.1 bt4027.2.2.1 bt4027.2.2.2 bt4052.1).bind fun bt4054 => (if bt4054.1 < 0 then (laws_FnExactChangedRegion.j0 k t4017 t4034 true a0_0 a0_1 a0_2 l0_3 a1_0 a1_1 a1_2 l1_3) else ((laws_eqRunS.f k t4034 t4017).bind fun t4056 => (laws_FnExactChangedRegion.j0 k t4017 t4034 (!t4056) a0_0 a0_1 a0_2 l0_3 a1_0 a1_1 a1_2 l1_3))))) else (some false)))) else (some false)))) else (some false))))))))))))) = some r := h
  clear h
  replace H := Option.bind_eq_some_iff.mp H
  obtain ⟨t4003, A30, H⟩ := H
  replace H : (if t4003 < 0 then (some true) else ((laws_szImage.f a1_0 a1_1 a1_2 l1_3 t4003).bind fun t4004 => (if t4004 < 0 then (some true) else ((laws_toImage.f k a0_0 a0_1 a0_2 l0_3).bind fun bt4005 => ((laws_toImage.f k a1_0 a1_1 a1_2 l1_3).bind fun bt4011 => ((spec_ChangedRegion.f k bt4005.1 bt4005.2.1 bt4005.2.2.1 bt4005.2.2.2 bt4011.1 bt4011.2.1 bt4011.2.2.1 bt4011.2.2.2).bind fun t4017 => ((laws_toImage.f k a0_0 a0_1 a0_2 l0_3).bind fun bt4020 => ((laws_toImage.f k a1_0 a1_1 a1_2 l1_3).bind fun bt4027 => ((impl_ChangedRegion.f bt4020.1 bt4020.2.1 bt4020.2.2.1 bt4020.2.2.2 bt4027.1 bt4027.2.1 bt4027.2.2.1 bt4027.2.2.2).bind fun t4034 => ((laws_eqRunS.f k t4034 t4017).bind fun t4037 => (if t4037 = true then ((laws_toImage.f k a0_0 a0_1 a0_2 l0_3).bind fun bt4038 => ((laws_eqImage.f k bt4020.1 bt4020.2.1 bt4020.2.2.1 bt4020.2.2.2 bt4038.1 bt4038.2.1 bt4038.2.2.1 bt4038.2.2.2).bind fun t4044 => (if t4044 = true then ((laws_toImage.f k a1_0 a1_1 a1_2 l1_3).bind fun bt4045 => ((laws_eqImage.f k bt4027.1 bt4027.2.1 bt4027.2.2.1 bt4027.2.2.2 bt4045.1 bt4045.2.1 bt4045.2.2.1 bt4045.2.2.2).bind fun t4051 => (if t4051 = true then ((laws_markImage.f k bt4020.1 bt4020.2.1 bt4020.2.2.1 bt4020.2.2.2 1).bind fun bt4052 => ((laws_markImage.f k bt4027.1 bt4027.2.1 bt4027.2.2.1 bt4027.2.2.2 bt4052.1).bind fun bt4054 => (if bt4054.1 < 0 then (laws_FnExactChangedRegion.j0 k t4017 t4034 true a0_0 a0_1 a0_2 l0_3 a1_0 a1_1 a1_2 l1_3) else ((laws_eqRunS.f k t4034 t4017).bind fun t4056 => (laws_FnExactChangedRegion.j0 k t4017 t4034 (!t4056) a0_0 a0_1 a0_2 l0_3 a1_0 a1_1 a1_2 l1_3))))) else (some false)))) else (some false)))) else (some false)))))))))))) = some r := H
  have A3 := Aside0.mk A30
  clear A30
  by_cases c4 : t4003 < 0
  · rw [if_pos c4] at H
    have c4b0 : decide (t4003 < 0) = true := decide_eq_true c4
    clear c4
    obtain rfl := Option.some.inj H
    go_enter Try.func3, Try.ntmps3
    go_wp2_with (first | ((with_reducible refine gate_dst (N := 2) rfl ?_); refine box_event ?hg (N := 2) ?hd (cs := #[.int .i64 a0_0, .int .i64 a0_1, .int .i64 a0_2, .slice A0_3 l0_3.length c0_3]) (t := 24) ?hr ?_; (case hd => rfl); (case hg => rfl); (case hr => first | (go_simp; done) | (go_simp; rfl)); intro gb4001 hg w5 hbox hb; have n0_ := Aside0.mk (below_step (by repeat (first | (with_reducible first | exact HB.out | apply below_alloc | apply pw_below_drewN | apply below_drew1) | exact HB.out)) hb); have n1_ := Aside0.mk (hbox); have n2_ := Aside0.mk ((by rw [hg]; exact (below_size (by repeat (first | (with_reducible first | exact HB.out | apply below_alloc | apply pw_below_drewN | apply below_drew1) | exact HB.out))) : w.heap.size ≤ gb4001)); have n3_ := Aside0.mk ((by rw [hg]; exact (below_size (by repeat (first | (with_reducible first | exact HB.out | apply below_alloc | apply pw_below_drewN | apply below_drew1) | exact HB.out))) : w.heap.size ≤ gb4001)); clear HB; have HB := n0_; have BK4001 := n1_; have GW4001 := n2_; have GE4001 := n3_; clear n0_ n1_ n2_ n3_; clear hb hbox hg) | ((with_reducible refine gate_dst (N := 3) rfl ?_); refine box_event ?hg (N := 3) ?hd (cs := #[.int .i64 a1_0, .int .i64 a1_1, .int .i64 a1_2, .slice A1_3 l1_3.length c1_3]) (t := 24) ?hr ?_; (case hd => rfl); (case hg => rfl); (case hr => first | (go_simp; done) | (go_simp; rfl)); intro gb4002 hg w6 hbox hb; have n0_ := Aside0.mk (blk_below (g := gb4001) (o := .cells #[.int .i64 a0_0, .int .i64 a0_1, .int .i64 a0_2, .slice A0_3 l0_3.length c0_3] 24 (0, 0)) (by (with_reducible repeat (first | refine blk_drewN ?_ _ | refine blk_drew ?_ | refine blk_alloc ?_ _)); exact BK4001.out) hb); have n1_ := Aside0.mk (below_step (by repeat (first | (with_reducible first | exact HB.out | apply below_alloc | apply pw_below_drewN | apply below_drew1 | refine below_set ?_ GE4001.out) | exact HB.out)) hb); have n2_ := Aside0.mk (hbox); have n3_ := Aside0.mk ((by rw [hg]; exact (below_size (by repeat (first | (with_reducible first | exact HB.out | apply below_alloc | apply pw_below_drewN | apply below_drew1 | refine below_set ?_ GE4001.out) | exact HB.out))) : w.heap.size ≤ gb4002)); have n4_ := Aside0.mk ((by rw [hg]; exact (below_size (by repeat (first | (with_reducible first | exact HB.out | apply below_alloc | apply pw_below_drewN | apply below_drew1 | refine below_set ?_ GE4001.out) | exact HB.out))) : w.heap.size ≤ gb4002)); have n5_ := Aside0.mk ((by rw [hg]; exact Nat.ne_of_lt (blk_lt (g := gb4001) (o := .cells #[.int .i64 a0_0, .int .i64 a0_1, .int .i64 a0_2, .slice A0_3 l0_3.length c0_3] 24 (0, 0)) (by (with_reducible repeat (first | refine blk_drewN ?_ _ | refine blk_drew ?_ | refine blk_alloc ?_ _)); exact BK4001.out)) : gb4001 ≠ gb4002)); have n6_ := Aside0.mk ((by rw [hg]; exact Nat.ne_of_gt (blk_lt (g := gb4001) (o := .cells #[.int .i64 a0_0, .int .i64 a0_1, .int .i64 a0_2, .slice A0_3 l0_3.length c0_3] 24 (0, 0)) (by (with_reducible repeat (first | refine blk_drewN ?_ _ | refine blk_drew ?_ | refine blk_alloc ?_ _)); exact BK4001.out)) : gb4002 ≠ gb4001)); clear BK4001; clear HB; have BK4001 := n0_; have HB := n1_; have BK4002 := n2_; have GW4002 := n3_; have GE4002 := n4_; have NB4001_4002 := n5_; have NB4002_4001 := n6_; clear n0_ n1_ n2_ n3_ n4_ n5_ n6_; clear hb hbox hg; have hnb7 := NB4001_4002.out; have hnc7 := NB4002_4001.out; have hcz8_0 : w6.cell? ⟨gb4001, 0, none⟩ = some (.int .i64 a0_0) := (blk_cell BK4001.out 0).trans rfl; have hcz8_1 : w6.cell? ⟨gb4001, 1, none⟩ = some (.int .i64 a0_1) := (blk_cell BK4001.out 1).trans rfl; have hcz8_2 : w6.cell? ⟨gb4001, 2, none⟩ = some (.int .i64 a0_2) := (blk_cell BK4001.out 2).trans rfl; have hcz8_3 : w6.cell? ⟨gb4001, 3, none⟩ = some (.slice A0_3 l0_3.length c0_3) := (blk_cell BK4001.out 3).trans rfl; have hfz8_0 := blk_frozen BK4001.out 0; have hfz8_1 := blk_frozen BK4001.out 1; have hfz8_2 := blk_frozen BK4001.out 2; have hfz8_3 := blk_frozen BK4001.out 3) | ((with_reducible refine gate_callee (f := 11) rfl ?_); refine goesL_ (some 16) rfl rfl Try.func11 (by kernel_rfl) rfl #[.agg #[.int .i64 a0_0, .int .i64 a0_1, .int .i64 a0_2, .slice A0_3 l0_3.length c0_3], .int .i64 1048576] rfl (by (try simp only [List.map_toArray, List.map_cons, List.map_nil]); first | done | rfl | (simp only [List.length_drop, List.length_take]; rfl)) ?_; (with_reducible refine (laws_szImage.calls a0_0 a0_1 a0_2 _ _ l0_3 1048576 t4003 _ ?side1 ?side2 A3.out).mono ?_); (case side1 => repeat (first | exact (Kd.C_below HR0_3.out HB.out) | (with_reducible refine Kd.C_alloc ?_ _) | (with_reducible refine Kd.C_drewN ?_ _) | (with_reducible refine Kd.C_drew ?_))); (case side2 => exact HC0_3.out); rintro e w9 ⟨rfl, hb⟩; refine ⟨_, rfl, ?_⟩; have n0_ := Aside0.mk (blk_below (g := gb4001) (o := .cells #[.int .i64 a0_0, .int .i64 a0_1, .int .i64 a0_2, .slice A0_3 l0_3.length c0_3] 24 (0, 0)) (by (with_reducible repeat (first | refine blk_drewN ?_ _ | refine blk_drew ?_ | refine blk_alloc ?_ _)); exact BK4001.out) hb); have n1_ := Aside0.mk (blk_below (g := gb4002) (o := .cells #[.int .i64 a1_0, .int .i64 a1_1, .int .i64 a1_2, .slice A1_3 l1_3.length c1_3] 24 (0, 0)) (by (with_reducible repeat (first | refine blk_drewN ?_ _ | refine blk_drew ?_ | refine blk_alloc ?_ _)); exact BK4002.out) hb); have n2_ := Aside0.mk (below_step (by repeat (first | (with_reducible first | exact HB.out | apply below_alloc | apply pw_below_drewN | apply below_drew1 | refine below_set ?_ GE4001.out | refine below_set ?_ GE4002.out) | exact HB.out)) hb); clear BK4001; clear BK4002; clear HB; have BK4001 := n0_; have BK4002 := n1_; have HB := n2_; clear n0_ n1_ n2_; (try clear hb); (try clear hb2); (try clear hk); (try clear hi)))
    go_ret
    exact ⟨by first | rfl | (simp [errW_none, errW_some] <;> rfl) | (simp [*, errW_none, errW_some] <;> rfl), by repeat (first | (with_reducible first | exact HB.out | apply below_alloc | apply pw_below_drewN | apply below_drew1 | refine below_set ?_ GE4001.out | refine below_set ?_ GE4002.out) | exact HB.out)⟩
  · rw [if_neg c4] at H
    have c4b0 : decide (t4003 < 0) = false := decide_eq_false c4
    clear c4
    replace H := Option.bind_eq_some_iff.mp H
    obtain ⟨t4004, A100, H⟩ := H
    replace H : (if t4004 < 0 then (some true) else ((laws_toImage.f k a0_0 a0_1 a0_2 l0_3).bind fun bt4005 => ((laws_toImage.f k a1_0 a1_1 a1_2 l1_3).bind fun bt4011 => ((spec_ChangedRegion.f k bt4005.1 bt4005.2.1 bt4005.2.2.1 bt4005.2.2.2 bt4011.1 bt4011.2.1 bt4011.2.2.1 bt4011.2.2.2).bind fun t4017 => ((laws_toImage.f k a0_0 a0_1 a0_2 l0_3).bind fun bt4020 => ((laws_toImage.f k a1_0 a1_1 a1_2 l1_3).bind fun bt4027 => ((impl_ChangedRegion.f bt4020.1 bt4020.2.1 bt4020.2.2.1 bt4020.2.2.2 bt4027.1 bt4027.2.1 bt4027.2.2.1 bt4027.2.2.2).bind fun t4034 => ((laws_eqRunS.f k t4034 t4017).bind fun t4037 => (if t4037 = true then ((laws_toImage.f k a0_0 a0_1 a0_2 l0_3).bind fun bt4038 => ((laws_eqImage.f k bt4020.1 bt4020.2.1 bt4020.2.2.1 bt4020.2.2.2 bt4038.1 bt4038.2.1 bt4038.2.2.1 bt4038.2.2.2).bind fun t4044 => (if t4044 = true then ((laws_toImage.f k a1_0 a1_1 a1_2 l1_3).bind fun bt4045 => ((laws_eqImage.f k bt4027.1 bt4027.2.1 bt4027.2.2.1 bt4027.2.2.2 bt4045.1 bt4045.2.1 bt4045.2.2.1 bt4045.2.2.2).bind fun t4051 => (if t4051 = true then ((laws_markImage.f k bt4020.1 bt4020.2.1 bt4020.2.2.1 bt4020.2.2.2 1).bind fun bt4052 => ((laws_markImage.f k bt4027.1 bt4027.2.1 bt4027.2.2.1 bt4027.2.2.2 bt4052.1).bind fun bt4054 => (if bt4054.1 < 0 then (laws_FnExactChangedRegion.j0 k t4017 t4034 true a0_0 a0_1 a0_2 l0_3 a1_0 a1_1 a1_2 l1_3) else ((laws_eqRunS.f k t4034 t4017).bind fun t4056 => (laws_FnExactChangedRegion.j0 k t4017 t4034 (!t4056) a0_0 a0_1 a0_2 l0_3 a1_0 a1_1 a1_2 l1_3))))) else (some false)))) else (some false)))) else (some false)))))))))) = some r := H
    have A10 := Aside0.mk A100
    clear A100
    by_cases c11 : t4004 < 0
    · rw [if_pos c11] at H
      have c11b0 : decide (t4004 < 0) = true := decide_eq_true c11
      clear c11
      obtain rfl := Option.some.inj H
      go_enter Try.func3, Try.ntmps3
      go_wp2_with (first | ((with_reducible refine gate_dst (N := 2) rfl ?_); refine box_event ?hg (N := 2) ?hd (cs := #[.int .i64 a0_0, .int .i64 a0_1, .int .i64 a0_2, .slice A0_3 l0_3.length c0_3]) (t := 24) ?hr ?_; (case hd => rfl); (case hg => rfl); (case hr => first | (go_simp; done) | (go_simp; rfl)); intro gb4001 hg w12 hbox hb; have n0_ := Aside0.mk (below_step (by repeat (first | (with_reducible first | exact HB.out | apply below_alloc | apply pw_below_drewN | apply below_drew1) | exact HB.out)) hb); have n1_ := Aside0.mk (hbox); have n2_ := Aside0.mk ((by rw [hg]; exact (below_size (by repeat (first | (with_reducible first | exact HB.out | apply below_alloc | apply pw_below_drewN | apply below_drew1) | exact HB.out))) : w.heap.size ≤ gb4001)); have n3_ := Aside0.mk ((by rw [hg]; exact (below_size (by repeat (first | (with_reducible first | exact HB.out | apply below_alloc | apply pw_below_drewN | apply below_drew1) | exact HB.out))) : w.heap.size ≤ gb4001)); clear HB; have HB := n0_; have BK4001 := n1_; have GW4001 := n2_; have GE4001 := n3_; clear n0_ n1_ n2_ n3_; clear hb hbox hg) | ((with_reducible refine gate_dst (N := 3) rfl ?_); refine box_event ?hg (N := 3) ?hd (cs := #[.int .i64 a1_0, .int .i64 a1_1, .int .i64 a1_2, .slice A1_3 l1_3.length c1_3]) (t := 24) ?hr ?_; (case hd => rfl); (case hg => rfl); (case hr => first | (go_simp; done) | (go_simp; rfl)); intro gb4002 hg w13 hbox hb; have n0_ := Aside0.mk (blk_below (g := gb4001) (o := .cells #[.int .i64 a0_0, .int .i64 a0_1, .int .i64 a0_2, .slice A0_3 l0_3.length c0_3] 24 (0, 0)) (by (with_reducible repeat (first | refine blk_drewN ?_ _ | refine blk_drew ?_ | refine blk_alloc ?_ _)); exact BK4001.out) hb); have n1_ := Aside0.mk (below_step (by repeat (first | (with_reducible first | exact HB.out | apply below_alloc | apply pw_below_drewN | apply below_drew1 | refine below_set ?_ GE4001.out) | exact HB.out)) hb); have n2_ := Aside0.mk (hbox); have n3_ := Aside0.mk ((by rw [hg]; exact (below_size (by repeat (first | (with_reducible first | exact HB.out | apply below_alloc | apply pw_below_drewN | apply below_drew1 | refine below_set ?_ GE4001.out) | exact HB.out))) : w.heap.size ≤ gb4002)); have n4_ := Aside0.mk ((by rw [hg]; exact (below_size (by repeat (first | (with_reducible first | exact HB.out | apply below_alloc | apply pw_below_drewN | apply below_drew1 | refine below_set ?_ GE4001.out) | exact HB.out))) : w.heap.size ≤ gb4002)); have n5_ := Aside0.mk ((by rw [hg]; exact Nat.ne_of_lt (blk_lt (g := gb4001) (o := .cells #[.int .i64 a0_0, .int .i64 a0_1, .int .i64 a0_2, .slice A0_3 l0_3.length c0_3] 24 (0, 0)) (by (with_reducible repeat (first | refine blk_drewN ?_ _ | refine blk_drew ?_ | refine blk_alloc ?_ _)); exact BK4001.out)) : gb4001 ≠ gb4002)); have n6_ := Aside0.mk ((by rw [hg]; exact Nat.ne_of_gt (blk_lt (g := gb4001) (o := .cells #[.int .i64 a0_0, .int .i64 a0_1, .int .i64 a0_2, .slice A0_3 l0_3.length c0_3] 24 (0, 0)) (by (with_reducible repeat (first | refine blk_drewN ?_ _ | refine blk_drew ?_ | refine blk_alloc ?_ _)); exact BK4001.out)) : gb4002 ≠ gb4001)); clear BK4001; clear HB; have BK4001 := n0_; have HB := n1_; have BK4002 := n2_; have GW4002 := n3_; have GE4002 := n4_; have NB4001_4002 := n5_; have NB4002_4001 := n6_; clear n0_ n1_ n2_ n3_ n4_ n5_ n6_; clear hb hbox hg; have hnb14 := NB4001_4002.out; have hnc14 := NB4002_4001.out; have hcz15_0 : w13.cell? ⟨gb4001, 0, none⟩ = some (.int .i64 a0_0) := (blk_cell BK4001.out 0).trans rfl; have hcz15_1 : w13.cell? ⟨gb4001, 1, none⟩ = some (.int .i64 a0_1) := (blk_cell BK4001.out 1).trans rfl; have hcz15_2 : w13.cell? ⟨gb4001, 2, none⟩ = some (.int .i64 a0_2) := (blk_cell BK4001.out 2).trans rfl; have hcz15_3 : w13.cell? ⟨gb4001, 3, none⟩ = some (.slice A0_3 l0_3.length c0_3) := (blk_cell BK4001.out 3).trans rfl; have hfz15_0 := blk_frozen BK4001.out 0; have hfz15_1 := blk_frozen BK4001.out 1; have hfz15_2 := blk_frozen BK4001.out 2; have hfz15_3 := blk_frozen BK4001.out 3) | ((with_reducible refine gate_callee (f := 11) rfl ?_); refine goesL_ (some 16) rfl rfl Try.func11 (by kernel_rfl) rfl #[.agg #[.int .i64 a0_0, .int .i64 a0_1, .int .i64 a0_2, .slice A0_3 l0_3.length c0_3], .int .i64 1048576] rfl (by (try simp only [List.map_toArray, List.map_cons, List.map_nil]); first | done | rfl | (simp only [List.length_drop, List.length_take]; rfl)) ?_; (with_reducible refine (laws_szImage.calls a0_0 a0_1 a0_2 _ _ l0_3 1048576 t4003 _ ?side1 ?side2 A3.out).mono ?_); (case side1 => repeat (first | exact (Kd.C_below HR0_3.out HB.out) | (with_reducible refine Kd.C_alloc ?_ _) | (with_reducible refine Kd.C_drewN ?_ _) | (with_reducible refine Kd.C_drew ?_))); (case side2 => exact HC0_3.out); rintro e w16 ⟨rfl, hb⟩; refine ⟨_, rfl, ?_⟩; have n0_ := Aside0.mk (blk_below (g := gb4001) (o := .cells #[.int .i64 a0_0, .int .i64 a0_1, .int .i64 a0_2, .slice A0_3 l0_3.length c0_3] 24 (0, 0)) (by (with_reducible repeat (first | refine blk_drewN ?_ _ | refine blk_drew ?_ | refine blk_alloc ?_ _)); exact BK4001.out) hb); have n1_ := Aside0.mk (blk_below (g := gb4002) (o := .cells #[.int .i64 a1_0, .int .i64 a1_1, .int .i64 a1_2, .slice A1_3 l1_3.length c1_3] 24 (0, 0)) (by (with_reducible repeat (first | refine blk_drewN ?_ _ | refine blk_drew ?_ | refine blk_alloc ?_ _)); exact BK4002.out) hb); have n2_ := Aside0.mk (below_step (by repeat (first | (with_reducible first | exact HB.out | apply below_alloc | apply pw_below_drewN | apply below_drew1 | refine below_set ?_ GE4001.out | refine below_set ?_ GE4002.out) | exact HB.out)) hb); clear BK4001; clear BK4002; clear HB; have BK4001 := n0_; have BK4002 := n1_; have HB := n2_; clear n0_ n1_ n2_; (try clear hb); (try clear hb2); (try clear hk); (try clear hi); have hcz17_0 : w16.cell? ⟨gb4002, 0, none⟩ = some (.int .i64 a1_0) := (blk_cell BK4002.out 0).trans rfl; have hcz17_1 : w16.cell? ⟨gb4002, 1, none⟩ = some (.int .i64 a1_1) := (blk_cell BK4002.out 1).trans rfl; have hcz17_2 : w16.cell? ⟨gb4002, 2, none⟩ = some (.int .i64 a1_2) := (blk_cell BK4002.out 2).trans rfl; have hcz17_3 : w16.cell? ⟨gb4002, 3, none⟩ = some (.slice A1_3 l1_3.length c1_3) := (blk_cell BK4002.out 3).trans rfl; have hfz17_0 := blk_frozen BK4002.out 0; have hfz17_1 := blk_frozen BK4002.out 1; have hfz17_2 := blk_frozen BK4002.out 2; have hfz17_3 := blk_frozen BK4002.out 3) | ((with_reducible refine gate_callee (f := 11) rfl ?_); refine goesL_ (some 21) rfl rfl Try.func11 (by kernel_rfl) rfl #[.agg #[.int .i64 a1_0, .int .i64 a1_1, .int .i64 a1_2, .slice A1_3 l1_3.length c1_3], .int .i64 t4003] rfl (by (try simp only [List.map_toArray, List.map_cons, List.map_nil]); first | done | rfl | (simp only [List.length_drop, List.length_take]; rfl)) ?_; (with_reducible refine (laws_szImage.calls a1_0 a1_1 a1_2 _ _ l1_3 t4003 t4004 _ ?side1 ?side2 A10.out).mono ?_); (case side1 => repeat (first | exact (Kd.C_below HR1_3.out HB.out) | (with_reducible refine Kd.C_alloc ?_ _) | (with_reducible refine Kd.C_drewN ?_ _) | (with_reducible refine Kd.C_drew ?_))); (case side2 => exact HC1_3.out); rintro e w18 ⟨rfl, hb⟩; refine ⟨_, rfl, ?_⟩; have n0_ := Aside0.mk (blk_below (g := gb4001) (o := .cells #[.int .i64 a0_0, .int .i64 a0_1, .int .i64 a0_2, .slice A0_3 l0_3.length c0_3] 24 (0, 0)) (by (with_reducible repeat (first | refine blk_drewN ?_ _ | refine blk_drew ?_ | refine blk_alloc ?_ _)); exact BK4001.out) hb); have n1_ := Aside0.mk (blk_below (g := gb4002) (o := .cells #[.int .i64 a1_0, .int .i64 a1_1, .int .i64 a1_2, .slice A1_3 l1_3.length c1_3] 24 (0, 0)) (by (with_reducible repeat (first | refine blk_drewN ?_ _ | refine blk_drew ?_ | refine blk_alloc ?_ _)); exact BK4002.out) hb); have n2_ := Aside0.mk (below_step (by repeat (first | (with_reducible first | exact HB.out | apply below_alloc | apply pw_below_drewN | apply below_drew1 | refine below_set ?_ GE4001.out | refine below_set ?_ GE4002.out) | exact HB.out)) hb); clear BK4001; clear BK4002; clear HB; have BK4001 := n0_; have BK4002 := n1_; have HB := n2_; clear n0_ n1_ n2_; (try clear hb); (try clear hb2); (try clear hk); (try clear hi)))
      go_ret
      exact ⟨by first | rfl | (simp [errW_none, errW_some] <;> rfl) | (simp [*, errW_none, errW_some] <;> rfl), by repeat (first | (with_reducible first | exact HB.out | apply below_alloc | apply pw_below_drewN | apply below_drew1 | refine below_set ?_ GE4001.out | refine below_set ?_ GE4002.out) | exact HB.out)⟩
    · rw [if_neg c11] at H
      have c11b0 : decide (t4004 < 0) = false := decide_eq_false c11
      clear c11
      replace H := Option.bind_eq_some_iff.mp H
      obtain ⟨⟨t4005, t4006, t4007, t4008⟩, A190, H⟩ := H
      replace H : ((laws_toImage.f k a1_0 a1_1 a1_2 l1_3).bind fun bt4011 => ((spec_ChangedRegion.f k t4005 t4006 t4007 t4008 bt4011.1 bt4011.2.1 bt4011.2.2.1 bt4011.2.2.2).bind fun t4017 => ((laws_toImage.f k a0_0 a0_1 a0_2 l0_3).bind fun bt4020 => ((laws_toImage.f k a1_0 a1_1 a1_2 l1_3).bind fun bt4027 => ((impl_ChangedRegion.f bt4020.1 bt4020.2.1 bt4020.2.2.1 bt4020.2.2.2 bt4027.1 bt4027.2.1 bt4027.2.2.1 bt4027.2.2.2).bind fun t4034 => ((laws_eqRunS.f k t4034 t4017).bind fun t4037 => (if t4037 = true then ((laws_toImage.f k a0_0 a0_1 a0_2 l0_3).bind fun bt4038 => ((laws_eqImage.f k bt4020.1 bt4020.2.1 bt4020.2.2.1 bt4020.2.2.2 bt4038.1 bt4038.2.1 bt4038.2.2.1 bt4038.2.2.2).bind fun t4044 => (if t4044 = true then ((laws_toImage.f k a1_0 a1_1 a1_2 l1_3).bind fun bt4045 => ((laws_eqImage.f k bt4027.1 bt4027.2.1 bt4027.2.2.1 bt4027.2.2.2 bt4045.1 bt4045.2.1 bt4045.2.2.1 bt4045.2.2.2).bind fun t4051 => (if t4051 = true then ((laws_markImage.f k bt4020.1 bt4020.2.1 bt4020.2.2.1 bt4020.2.2.2 1).bind fun bt4052 => ((laws_markImage.f k bt4027.1 bt4027.2.1 bt4027.2.2.1 bt4027.2.2.2 bt4052.1).bind fun bt4054 => (if bt4054.1 < 0 then (laws_FnExactChangedRegion.j0 k t4017 t4034 true a0_0 a0_1 a0_2 l0_3 a1_0 a1_1 a1_2 l1_3) else ((laws_eqRunS.f k t4034 t4017).bind fun t4056 => (laws_FnExactChangedRegion.j0 k t4017 t4034 (!t4056) a0_0 a0_1 a0_2 l0_3 a1_0 a1_1 a1_2 l1_3))))) else (some false)))) else (some false)))) else (some false)))))))) = some r := H
      have A19 := Aside0.mk A190
      clear A190
      replace H := Option.bind_eq_some_iff.mp H
      obtain ⟨⟨t4011, t4012, t4013, t4014⟩, A200, H⟩ := H
      replace H : ((spec_ChangedRegion.f k t4005 t4006 t4007 t4008 t4011 t4012 t4013 t4014).bind fun t4017 => ((laws_toImage.f k a0_0 a0_1 a0_2 l0_3).bind fun bt4020 => ((laws_toImage.f k a1_0 a1_1 a1_2 l1_3).bind fun bt4027 => ((impl_ChangedRegion.f bt4020.1 bt4020.2.1 bt4020.2.2.1 bt4020.2.2.2 bt4027.1 bt4027.2.1 bt4027.2.2.1 bt4027.2.2.2).bind fun t4034 => ((laws_eqRunS.f k t4034 t4017).bind fun t4037 => (if t4037 = true then ((laws_toImage.f k a0_0 a0_1 a0_2 l0_3).bind fun bt4038 => ((laws_eqImage.f k bt4020.1 bt4020.2.1 bt4020.2.2.1 bt4020.2.2.2 bt4038.1 bt4038.2.1 bt4038.2.2.1 bt4038.2.2.2).bind fun t4044 => (if t4044 = true then ((laws_toImage.f k a1_0 a1_1 a1_2 l1_3).bind fun bt4045 => ((laws_eqImage.f k bt4027.1 bt4027.2.1 bt4027.2.2.1 bt4027.2.2.2 bt4045.1 bt4045.2.1 bt4045.2.2.1 bt4045.2.2.2).bind fun t4051 => (if t4051 = true then ((laws_markImage.f k bt4020.1 bt4020.2.1 bt4020.2.2.1 bt4020.2.2.2 1).bind fun bt4052 => ((laws_markImage.f k bt4027.1 bt4027.2.1 bt4027.2.2.1 bt4027.2.2.2 bt4052.1).bind fun bt4054 => (if bt4054.1 < 0 then (laws_FnExactChangedRegion.j0 k t4017 t4034 true a0_0 a0_1 a0_2 l0_3 a1_0 a1_1 a1_2 l1_3) else ((laws_eqRunS.f k t4034 t4017).bind fun t4056 => (laws_FnExactChangedRegion.j0 k t4017 t4034 (!t4056) a0_0 a0_1 a0_2 l0_3 a1_0 a1_1 a1_2 l1_3))))) else (some false)))) else (some false)))) else (some false))))))) = some r := H
      have A20 := Aside0.mk A200
      clear A200
      replace H := Option.bind_eq_some_iff.mp H
      obtain ⟨t4017, A210, H⟩ := H
      replace H : ((laws_toImage.f k a0_0 a0_1 a0_2 l0_3).bind fun bt4020 => ((laws_toImage.f k a1_0 a1_1 a1_2 l1_3).bind fun bt4027 => ((impl_ChangedRegion.f bt4020.1 bt4020.2.1 bt4020.2.2.1 bt4020.2.2.2 bt4027.1 bt4027.2.1 bt4027.2.2.1 bt4027.2.2.2).bind fun t4034 => ((laws_eqRunS.f k t4034 t4017).bind fun t4037 => (if t4037 = true then ((laws_toImage.f k a0_0 a0_1 a0_2 l0_3).bind fun bt4038 => ((laws_eqImage.f k bt4020.1 bt4020.2.1 bt4020.2.2.1 bt4020.2.2.2 bt4038.1 bt4038.2.1 bt4038.2.2.1 bt4038.2.2.2).bind fun t4044 => (if t4044 = true then ((laws_toImage.f k a1_0 a1_1 a1_2 l1_3).bind fun bt4045 => ((laws_eqImage.f k bt4027.1 bt4027.2.1 bt4027.2.2.1 bt4027.2.2.2 bt4045.1 bt4045.2.1 bt4045.2.2.1 bt4045.2.2.2).bind fun t4051 => (if t4051 = true then ((laws_markImage.f k bt4020.1 bt4020.2.1 bt4020.2.2.1 bt4020.2.2.2 1).bind fun bt4052 => ((laws_markImage.f k bt4027.1 bt4027.2.1 bt4027.2.2.1 bt4027.2.2.2 bt4052.1).bind fun bt4054 => (if bt4054.1 < 0 then (laws_FnExactChangedRegion.j0 k t4017 t4034 true a0_0 a0_1 a0_2 l0_3 a1_0 a1_1 a1_2 l1_3) else ((laws_eqRunS.f k t4034 t4017).bind fun t4056 => (laws_FnExactChangedRegion.j0 k t4017 t4034 (!t4056) a0_0 a0_1 a0_2 l0_3 a1_0 a1_1 a1_2 l1_3))))) else (some false)))) else (some false)))) else (some false)))))) = some r := H
      have A21 := Aside0.mk A210
      clear A210
      replace H := Option.bind_eq_some_iff.mp H
      obtain ⟨⟨t4020, t4021, t4022, t4023⟩, A220, H⟩ := H
      replace H : ((laws_toImage.f k a1_0 a1_1 a1_2 l1_3).bind fun bt4027 => ((impl_ChangedRegion.f t4020 t4021 t4022 t4023 bt4027.1 bt4027.2.1 bt4027.2.2.1 bt4027.2.2.2).bind fun t4034 => ((laws_eqRunS.f k t4034 t4017).bind fun t4037 => (if t4037 = true then ((laws_toImage.f k a0_0 a0_1 a0_2 l0_3).bind fun bt4038 => ((laws_eqImage.f k t4020 t4021 t4022 t4023 bt4038.1 bt4038.2.1 bt4038.2.2.1 bt4038.2.2.2).bind fun t4044 => (if t4044 = true then ((laws_toImage.f k a1_0 a1_1 a1_2 l1_3).bind fun bt4045 => ((laws_eqImage.f k bt4027.1 bt4027.2.1 bt4027.2.2.1 bt4027.2.2.2 bt4045.1 bt4045.2.1 bt4045.2.2.1 bt4045.2.2.2).bind fun t4051 => (if t4051 = true then ((laws_markImage.f k t4020 t4021 t4022 t4023 1).bind fun bt4052 => ((laws_markImage.f k bt4027.1 bt4027.2.1 bt4027.2.2.1 bt4027.2.2.2 bt4052.1).bind fun bt4054 => (if bt4054.1 < 0 then (laws_FnExactChangedRegion.j0 k t4017 t4034 true a0_0 a0_1 a0_2 l0_3 a1_0 a1_1 a1_2 l1_3) else ((laws_eqRunS.f k t4034 t4017).bind fun t4056 => (laws_FnExactChangedRegion.j0 k t4017 t4034 (!t4056) a0_0 a0_1 a0_2 l0_3 a1_0 a1_1 a1_2 l1_3))))) else (some false)))) else (some false)))) else (some false))))) = some r := H
      have A22 := Aside0.mk A220
      clear A220
      replace H := Option.bind_eq_some_iff.mp H
      obtain ⟨⟨t4027, t4028, t4029, t4030⟩, A230, H⟩ := H
      replace H : ((impl_ChangedRegion.f t4020 t4021 t4022 t4023 t4027 t4028 t4029 t4030).bind fun t4034 => ((laws_eqRunS.f k t4034 t4017).bind fun t4037 => (if t4037 = true then ((laws_toImage.f k a0_0 a0_1 a0_2 l0_3).bind fun bt4038 => ((laws_eqImage.f k t4020 t4021 t4022 t4023 bt4038.1 bt4038.2.1 bt4038.2.2.1 bt4038.2.2.2).bind fun t4044 => (if t4044 = true then ((laws_toImage.f k a1_0 a1_1 a1_2 l1_3).bind fun bt4045 => ((laws_eqImage.f k t4027 t4028 t4029 t4030 bt4045.1 bt4045.2.1 bt4045.2.2.1 bt4045.2.2.2).bind fun t4051 => (if t4051 = true then ((laws_markImage.f k t4020 t4021 t4022 t4023 1).bind fun bt4052 => ((laws_markImage.f k t4027 t4028 t4029 t4030 bt4052.1).bind fun bt4054 => (if bt4054.1 < 0 then (laws_FnExactChangedRegion.j0 k t4017 t4034 true a0_0 a0_1 a0_2 l0_3 a1_0 a1_1 a1_2 l1_3) else ((laws_eqRunS.f k t4034 t4017).bind fun t4056 => (laws_FnExactChangedRegion.j0 k t4017 t4034 (!t4056) a0_0 a0_1 a0_2 l0_3 a1_0 a1_1 a1_2 l1_3))))) else (some false)))) else (some false)))) else (some false)))) = some r := H
      have A23 := Aside0.mk A230
      clear A230
      replace H := Option.bind_eq_some_iff.mp H
      obtain ⟨t4034, A240, H⟩ := H
      replace H : ((laws_eqRunS.f k t4034 t4017).bind fun t4037 => (if t4037 = true then ((laws_toImage.f k a0_0 a0_1 a0_2 l0_3).bind fun bt4038 => ((laws_eqImage.f k t4020 t4021 t4022 t4023 bt4038.1 bt4038.2.1 bt4038.2.2.1 bt4038.2.2.2).bind fun t4044 => (if t4044 = true then ((laws_toImage.f k a1_0 a1_1 a1_2 l1_3).bind fun bt4045 => ((laws_eqImage.f k t4027 t4028 t4029 t4030 bt4045.1 bt4045.2.1 bt4045.2.2.1 bt4045.2.2.2).bind fun t4051 => (if t4051 = true then ((laws_markImage.f k t4020 t4021 t4022 t4023 1).bind fun bt4052 => ((laws_markImage.f k t4027 t4028 t4029 t4030 bt4052.1).bind fun bt4054 => (if bt4054.1 < 0 then (laws_FnExactChangedRegion.j0 k t4017 t4034 true a0_0 a0_1 a0_2 l0_3 a1_0 a1_1 a1_2 l1_3) else ((laws_eqRunS.f k t4034 t4017).bind fun t4056 => (laws_FnExactChangedRegion.j0 k t4017 t4034 (!t4056) a0_0 a0_1 a0_2 l0_3 a1_0 a1_1 a1_2 l1_3))))) else (some false)))) else (some false)))) else (some false))) = some r := H
      have A24 := Aside0.mk A240
      clear A240
      replace H := Option.bind_eq_some_iff.mp H
      obtain ⟨t4037, A250, H⟩ := H
      replace H : (if t4037 = true then ((laws_toImage.f k a0_0 a0_1 a0_2 l0_3).bind fun bt4038 => ((laws_eqImage.f k t4020 t4021 t4022 t4023 bt4038.1 bt4038.2.1 bt4038.2.2.1 bt4038.2.2.2).bind fun t4044 => (if t4044 = true then ((laws_toImage.f k a1_0 a1_1 a1_2 l1_3).bind fun bt4045 => ((laws_eqImage.f k t4027 t4028 t4029 t4030 bt4045.1 bt4045.2.1 bt4045.2.2.1 bt4045.2.2.2).bind fun t4051 => (if t4051 = true then ((laws_markImage.f k t4020 t4021 t4022 t4023 1).bind fun bt4052 => ((laws_markImage.f k t4027 t4028 t4029 t4030 bt4052.1).bind fun bt4054 => (if bt4054.1 < 0 then (laws_FnExactChangedRegion.j0 k t4017 t4034 true a0_0 a0_1 a0_2 l0_3 a1_0 a1_1 a1_2 l1_3) else ((laws_eqRunS.f k t4034 t4017).bind fun t4056 => (laws_FnExactChangedRegion.j0 k t4017 t4034 (!t4056) a0_0 a0_1 a0_2 l0_3 a1_0 a1_1 a1_2 l1_3))))) else (some false)))) else (some false)))) else (some false)) = some r := H
      have A25 := Aside0.mk A250
      clear A250
      by_cases c26 : t4037 = true
      · subst c26
        have H1 : ((laws_toImage.f k a0_0 a0_1 a0_2 l0_3).bind fun bt4038 => ((laws_eqImage.f k t4020 t4021 t4022 t4023 bt4038.1 bt4038.2.1 bt4038.2.2.1 bt4038.2.2.2).bind fun t4044 => (if t4044 = true then ((laws_toImage.f k a1_0 a1_1 a1_2 l1_3).bind fun bt4045 => ((laws_eqImage.f k t4027 t4028 t4029 t4030 bt4045.1 bt4045.2.1 bt4045.2.2.1 bt4045.2.2.2).bind fun t4051 => (if t4051 = true then ((laws_markImage.f k t4020 t4021 t4022 t4023 1).bind fun bt4052 => ((laws_markImage.f k t4027 t4028 t4029 t4030 bt4052.1).bind fun bt4054 => (if bt4054.1 < 0 then (laws_FnExactChangedRegion.j0 k t4017 t4034 true a0_0 a0_1 a0_2 l0_3 a1_0 a1_1 a1_2 l1_3) else ((laws_eqRunS.f k t4034 t4017).bind fun t4056 => (laws_FnExactChangedRegion.j0 k t4017 t4034 (!t4056) a0_0 a0_1 a0_2 l0_3 a1_0 a1_1 a1_2 l1_3))))) else (some false)))) else (some false)))) = some r := by rw [if_pos rfl] at H; exact H
        clear H
        have H := H1
        clear H1
        replace H := Option.bind_eq_some_iff.mp H
        obtain ⟨⟨t4038, t4039, t4040, t4041⟩, A270, H⟩ := H
        replace H : ((laws_eqImage.f k t4020 t4021 t4022 t4023 t4038 t4039 t4040 t4041).bind fun t4044 => (if t4044 = true then ((laws_toImage.f k a1_0 a1_1 a1_2 l1_3).bind fun bt4045 => ((laws_eqImage.f k t4027 t4028 t4029 t4030 bt4045.1 bt4045.2.1 bt4045.2.2.1 bt4045.2.2.2).bind fun t4051 => (if t4051 = true then ((laws_markImage.f k t4020 t4021 t4022 t4023 1).bind fun bt4052 => ((laws_markImage.f k t4027 t4028 t4029 t4030 bt4052.1).bind fun bt4054 => (if bt4054.1 < 0 then (laws_FnExactChangedRegion.j0 k t4017 t4034 true a0_0 a0_1 a0_2 l0_3 a1_0 a1_1 a1_2 l1_3) else ((laws_eqRunS.f k t4034 t4017).bind fun t4056 => (laws_FnExactChangedRegion.j0 k t4017 t4034 (!t4056) a0_0 a0_1 a0_2 l0_3 a1_0 a1_1 a1_2 l1_3))))) else (some false)))) else (some false))) = some r := H
        have A27 := Aside0.mk A270
        clear A270
        replace H := Option.bind_eq_some_iff.mp H
        obtain ⟨t4044, A280, H⟩ := H
        replace H : (if t4044 = true then ((laws_toImage.f k a1_0 a1_1 a1_2 l1_3).bind fun bt4045 => ((laws_eqImage.f k t4027 t4028 t4029 t4030 bt4045.1 bt4045.2.1 bt4045.2.2.1 bt4045.2.2.2).bind fun t4051 => (if t4051 = true then ((laws_markImage.f k t4020 t4021 t4022 t4023 1).bind fun bt4052 => ((laws_markImage.f k t4027 t4028 t4029 t4030 bt4052.1).bind fun bt4054 => (if bt4054.1 < 0 then (laws_FnExactChangedRegion.j0 k t4017 t4034 true a0_0 a0_1 a0_2 l0_3 a1_0 a1_1 a1_2 l1_3) else ((laws_eqRunS.f k t4034 t4017).bind fun t4056 => (laws_FnExactChangedRegion.j0 k t4017 t4034 (!t4056) a0_0 a0_1 a0_2 l0_3 a1_0 a1_1 a1_2 l1_3))))) else (some false)))) else (some false)) = some r := H
        have A28 := Aside0.mk A280
        clear A280
        by_cases c29 : t4044 = true
        · subst c29
          have H1 : ((laws_toImage.f k a1_0 a1_1 a1_2 l1_3).bind fun bt4045 => ((laws_eqImage.f k t4027 t4028 t4029 t4030 bt4045.1 bt4045.2.1 bt4045.2.2.1 bt4045.2.2.2).bind fun t4051 => (if t4051 = true then ((laws_markImage.f k t4020 t4021 t4022 t4023 1).bind fun bt4052 => ((laws_markImage.f k t4027 t4028 t4029 t4030 bt4052.1).bind fun bt4054 => (if bt4054.1 < 0 then (laws_FnExactChangedRegion.j0 k t4017 t4034 true a0_0 a0_1 a0_2 l0_3 a1_0 a1_1 a1_2 l1_3) else ((laws_eqRunS.f k t4034 t4017).bind fun t4056 => (laws_FnExactChangedRegion.j0 k t4017 t4034 (!t4056) a0_0 a0_1 a0_2 l0_3 a1_0 a1_1 a1_2 l1_3))))) else (some false)))) = some r := by rw [if_pos rfl] at H; exact H
          clear H
          have H := H1
          clear H1
          replace H := Option.bind_eq_some_iff.mp H
          obtain ⟨⟨t4045, t4046, t4047, t4048⟩, A300, H⟩ := H
          replace H : ((laws_eqImage.f k t4027 t4028 t4029 t4030 t4045 t4046 t4047 t4048).bind fun t4051 => (if t4051 = true then ((laws_markImage.f k t4020 t4021 t4022 t4023 1).bind fun bt4052 => ((laws_markImage.f k t4027 t4028 t4029 t4030 bt4052.1).bind fun bt4054 => (if bt4054.1 < 0 then (laws_FnExactChangedRegion.j0 k t4017 t4034 true a0_0 a0_1 a0_2 l0_3 a1_0 a1_1 a1_2 l1_3) else ((laws_eqRunS.f k t4034 t4017).bind fun t4056 => (laws_FnExactChangedRegion.j0 k t4017 t4034 (!t4056) a0_0 a0_1 a0_2 l0_3 a1_0 a1_1 a1_2 l1_3))))) else (some false))) = some r := H
          have A30 := Aside0.mk A300
          clear A300
          replace H := Option.bind_eq_some_iff.mp H
          obtain ⟨t4051, A310, H⟩ := H
          replace H : (if t4051 = true then ((laws_markImage.f k t4020 t4021 t4022 t4023 1).bind fun bt4052 => ((laws_markImage.f k t4027 t4028 t4029 t4030 bt4052.1).bind fun bt4054 => (if bt4054.1 < 0 then (laws_FnExactChangedRegion.j0 k t4017 t4034 true a0_0 a0_1 a0_2 l0_3 a1_0 a1_1 a1_2 l1_3) else ((laws_eqRunS.f k t4034 t4017).bind fun t4056 => (laws_FnExactChangedRegion.j0 k t4017 t4034 (!t4056) a0_0 a0_1 a0_2 l0_3 a1_0 a1_1 a1_2 l1_3))))) else (some false)) = some r := H
          have A31 := Aside0.mk A310
          clear A310
          by_cases c32 : t4051 = true
          · subst c32
            have H1 : ((laws_markImage.f k t4020 t4021 t4022 t4023 1).bind fun bt4052 => ((laws_markImage.f k t4027 t4028 t4029 t4030 bt4052.1).bind fun bt4054 => (if bt4054.1 < 0 then (laws_FnExactChangedRegion.j0 k t4017 t4034 true a0_0 a0_1 a0_2 l0_3 a1_0 a1_1 a1_2 l1_3) else ((laws_eqRunS.f k t4034 t4017).bind fun t4056 => (laws_FnExactChangedRegion.j0 k t4017 t4034 (!t4056) a0_0 a0_1 a0_2 l0_3 a1_0 a1_1 a1_2 l1_3))))) = some r := by rw [if_pos rfl] at H; exact H
            clear H
            have H := H1
            clear H1
            replace H := Option.bind_eq_some_iff.mp H
            obtain ⟨⟨t4052, t4053⟩, A330, H⟩ := H
            replace H : ((laws_markImage.f k t4027 t4028 t4029 t4030 t4052).bind fun bt4054 => (if bt4054.1 < 0 then (laws_FnExactChangedRegion.j0 k t4017 t4034 true a0_0 a0_1 a0_2 l0_3 a1_0 a1_1 a1_2 l1_3) else ((laws_eqRunS.f k t4034 t4017).bind fun t4056 => (laws_FnExactChangedRegion.j0 k t4017 t4034 (!t4056) a0_0 a0_1 a0_2 l0_3 a1_0 a1_1 a1_2 l1_3)))) = some r := H
            have A33 := Aside0.mk A330
            clear A330
            replace H := Option.bind_eq_some_iff.mp H
            obtain ⟨⟨t4054, t4055⟩, A340, H⟩ := H
            replace H : (if t4054 < 0 then (laws_FnExactChangedRegion.j0 k t4017 t4034 true a0_0 a0_1 a0_2 l0_3 a1_0 a1_1 a1_2 l1_3) else ((laws_eqRunS.f k t4034 t4017).bind fun t4056 => (laws_FnExactChangedRegion.j0 k t4017 t4034 (!t4056) a0_0 a0_1 a0_2 l0_3 a1_0 a1_1 a1_2 l1_3))) = some r := H
            have A34 := Aside0.mk A340
            clear A340
            have HC35 := Aside0.mk H
            clear H
            go_enter Try.func3, Try.ntmps3
            try go_wp2_with (first | ((with_reducible refine gate_dst (N := 2) rfl ?_); refine box_event ?hg (N := 2) ?hd (cs := #[.int .i64 a0_0, .int .i64 a0_1, .int .i64 a0_2, .slice A0_3 l0_3.length c0_3]) (t := 24) ?hr ?_; (case hd => rfl); (case hg => rfl); (case hr => first | (go_simp; done) | (go_simp; rfl)); intro gb4001 hg w36 hbox hb; have n0_ := Aside0.mk (below_step (by repeat (first | (with_reducible first | exact HB.out | apply below_alloc | apply pw_below_drewN | apply below_drew1) | exact HB.out)) hb); have n1_ := Aside0.mk (hbox); have n2_ := Aside0.mk ((by rw [hg]; exact (below_size (by repeat (first | (with_reducible first | exact HB.out | apply below_alloc | apply pw_below_drewN | apply below_drew1) | exact HB.out))) : w.heap.size ≤ gb4001)); have n3_ := Aside0.mk ((by rw [hg]; exact (below_size (by repeat (first | (with_reducible first | exact HB.out | apply below_alloc | apply pw_below_drewN | apply below_drew1) | exact HB.out))) : w.heap.size ≤ gb4001)); clear HB; have HB := n0_; have BK4001 := n1_; have GW4001 := n2_; have GE4001 := n3_; clear n0_ n1_ n2_ n3_; clear hb hbox hg) | ((with_reducible refine gate_dst (N := 3) rfl ?_); refine box_event ?hg (N := 3) ?hd (cs := #[.int .i64 a1_0, .int .i64 a1_1, .int .i64 a1_2, .slice A1_3 l1_3.length c1_3]) (t := 24) ?hr ?_; (case hd => rfl); (case hg => rfl); (case hr => first | (go_simp; done) | (go_simp; rfl)); intro gb4002 hg w37 hbox hb; have n0_ := Aside0.mk (blk_below (g := gb4001) (o := .cells #[.int .i64 a0_0, .int .i64 a0_1, .int .i64 a0_2, .slice A0_3 l0_3.length c0_3] 24 (0, 0)) (by (with_reducible repeat (first | refine blk_drewN ?_ _ | refine blk_drew ?_ | refine blk_alloc ?_ _)); exact BK4001.out) hb); have n1_ := Aside0.mk (below_step (by repeat (first | (with_reducible first | exact HB.out | apply below_alloc | apply pw_below_drewN | apply below_drew1 | refine below_set ?_ GE4001.out) | exact HB.out)) hb); have n2_ := Aside0.mk (hbox); have n3_ := Aside0.mk ((by rw [hg]; exact (below_size (by repeat (first | (with_reducible first | exact HB.out | apply below_alloc | apply pw_below_drewN | apply below_drew1 | refine below_set ?_ GE4001.out) | exact HB.out))) : w.heap.size ≤ gb4002)); have n4_ := Aside0.mk ((by rw [hg]; exact (below_size (by repeat (first | (with_reducible first | exact HB.out | apply below_alloc | apply pw_below_drewN | apply below_drew1 | refine below_set ?_ GE4001.out) | exact HB.out))) : w.heap.size ≤ gb4002)); have n5_ := Aside0.mk ((by rw [hg]; exact Nat.ne_of_lt (blk_lt (g := gb4001) (o := .cells #[.int .i64 a0_0, .int .i64 a0_1, .int .i64 a0_2, .slice A0_3 l0_3.length c0_3] 24 (0, 0)) (by (with_reducible repeat (first | refine blk_drewN ?_ _ | refine blk_drew ?_ | refine blk_alloc ?_ _)); exact BK4001.out)) : gb4001 ≠ gb4002)); have n6_ := Aside0.mk ((by rw [hg]; exact Nat.ne_of_gt (blk_lt (g := gb4001) (o := .cells #[.int .i64 a0_0, .int .i64 a0_1, .int .i64 a0_2, .slice A0_3 l0_3.length c0_3] 24 (0, 0)) (by (with_reducible repeat (first | refine blk_drewN ?_ _ | refine blk_drew ?_ | refine blk_alloc ?_ _)); exact BK4001.out)) : gb4002 ≠ gb4001)); clear BK4001; clear HB; have BK4001 := n0_; have HB := n1_; have BK4002 := n2_; have GW4002 := n3_; have GE4002 := n4_; have NB4001_4002 := n5_; have NB4002_4001 := n6_; clear n0_ n1_ n2_ n3_ n4_ n5_ n6_; clear hb hbox hg; have hnb38 := NB4001_4002.out; have hnc38 := NB4002_4001.out; have hcz39_0 : w37.cell? ⟨gb4001, 0, none⟩ = some (.int .i64 a0_0) := (blk_cell BK4001.out 0).trans rfl; have hcz39_1 : w37.cell? ⟨gb4001, 1, none⟩ = some (.int .i64 a0_1) := (blk_cell BK4001.out 1).trans rfl; have hcz39_2 : w37.cell? ⟨gb4001, 2, none⟩ = some (.int .i64 a0_2) := (blk_cell BK4001.out 2).trans rfl; have hcz39_3 : w37.cell? ⟨gb4001, 3, none⟩ = some (.slice A0_3 l0_3.length c0_3) := (blk_cell BK4001.out 3).trans rfl; have hfz39_0 := blk_frozen BK4001.out 0; have hfz39_1 := blk_frozen BK4001.out 1; have hfz39_2 := blk_frozen BK4001.out 2; have hfz39_3 := blk_frozen BK4001.out 3) | ((with_reducible refine gate_callee (f := 11) rfl ?_); refine goesL_ (some 16) rfl rfl Try.func11 (by kernel_rfl) rfl #[.agg #[.int .i64 a0_0, .int .i64 a0_1, .int .i64 a0_2, .slice A0_3 l0_3.length c0_3], .int .i64 1048576] rfl (by (try simp only [List.map_toArray, List.map_cons, List.map_nil]); first | done | rfl | (simp only [List.length_drop, List.length_take]; rfl)) ?_; (with_reducible refine (laws_szImage.calls a0_0 a0_1 a0_2 _ _ l0_3 1048576 t4003 _ ?side1 ?side2 A3.out).mono ?_); (case side1 => repeat (first | exact (Kd.C_below HR0_3.out HB.out) | (with_reducible refine Kd.C_alloc ?_ _) | (with_reducible refine Kd.C_drewN ?_ _) | (with_reducible refine Kd.C_drew ?_))); (case side2 => exact HC0_3.out); rintro e w40 ⟨rfl, hb⟩; refine ⟨_, rfl, ?_⟩; have n0_ := Aside0.mk (blk_below (g := gb4001) (o := .cells #[.int .i64 a0_0, .int .i64 a0_1, .int .i64 a0_2, .slice A0_3 l0_3.length c0_3] 24 (0, 0)) (by (with_reducible repeat (first | refine blk_drewN ?_ _ | refine blk_drew ?_ | refine blk_alloc ?_ _)); exact BK4001.out) hb); have n1_ := Aside0.mk (blk_below (g := gb4002) (o := .cells #[.int .i64 a1_0, .int .i64 a1_1, .int .i64 a1_2, .slice A1_3 l1_3.length c1_3] 24 (0, 0)) (by (with_reducible repeat (first | refine blk_drewN ?_ _ | refine blk_drew ?_ | refine blk_alloc ?_ _)); exact BK4002.out) hb); have n2_ := Aside0.mk (below_step (by repeat (first | (with_reducible first | exact HB.out | apply below_alloc | apply pw_below_drewN | apply below_drew1 | refine below_set ?_ GE4001.out | refine below_set ?_ GE4002.out) | exact HB.out)) hb); clear BK4001; clear BK4002; clear HB; have BK4001 := n0_; have BK4002 := n1_; have HB := n2_; clear n0_ n1_ n2_; (try clear hb); (try clear hb2); (try clear hk); (try clear hi); have hcz41_0 : w40.cell? ⟨gb4002, 0, none⟩ = some (.int .i64 a1_0) := (blk_cell BK4002.out 0).trans rfl; have hcz41_1 : w40.cell? ⟨gb4002, 1, none⟩ = some (.int .i64 a1_1) := (blk_cell BK4002.out 1).trans rfl; have hcz41_2 : w40.cell? ⟨gb4002, 2, none⟩ = some (.int .i64 a1_2) := (blk_cell BK4002.out 2).trans rfl; have hcz41_3 : w40.cell? ⟨gb4002, 3, none⟩ = some (.slice A1_3 l1_3.length c1_3) := (blk_cell BK4002.out 3).trans rfl; have hfz41_0 := blk_frozen BK4002.out 0; have hfz41_1 := blk_frozen BK4002.out 1; have hfz41_2 := blk_frozen BK4002.out 2; have hfz41_3 := blk_frozen BK4002.out 3) | ((with_reducible refine gate_callee (f := 11) rfl ?_); refine goesL_ (some 21) rfl rfl Try.func11 (by kernel_rfl) rfl #[.agg #[.int .i64 a1_0, .int .i64 a1_1, .int .i64 a1_2, .slice A1_3 l1_3.length c1_3], .int .i64 t4003] rfl (by (try simp only [List.map_toArray, List.map_cons, List.map_nil]); first | done | rfl | (simp only [List.length_drop, List.length_take]; rfl)) ?_; (with_reducible refine (laws_szImage.calls a1_0 a1_1 a1_2 _ _ l1_3 t4003 t4004 _ ?side1 ?side2 A10.out).mono ?_); (case side1 => repeat (first | exact (Kd.C_below HR1_3.out HB.out) | (with_reducible refine Kd.C_alloc ?_ _) | (with_reducible refine Kd.C_drewN ?_ _) | (with_reducible refine Kd.C_drew ?_))); (case side2 => exact HC1_3.out); rintro e w42 ⟨rfl, hb⟩; refine ⟨_, rfl, ?_⟩; have n0_ := Aside0.mk (blk_below (g := gb4001) (o := .cells #[.int .i64 a0_0, .int .i64 a0_1, .int .i64 a0_2, .slice A0_3 l0_3.length c0_3] 24 (0, 0)) (by (with_reducible repeat (first | refine blk_drewN ?_ _ | refine blk_drew ?_ | refine blk_alloc ?_ _)); exact BK4001.out) hb); have n1_ := Aside0.mk (blk_below (g := gb4002) (o := .cells #[.int .i64 a1_0, .int .i64 a1_1, .int .i64 a1_2, .slice A1_3 l1_3.length c1_3] 24 (0, 0)) (by (with_reducible repeat (first | refine blk_drewN ?_ _ | refine blk_drew ?_ | refine blk_alloc ?_ _)); exact BK4002.out) hb); have n2_ := Aside0.mk (below_step (by repeat (first | (with_reducible first | exact HB.out | apply below_alloc | apply pw_below_drewN | apply below_drew1 | refine below_set ?_ GE4001.out | refine below_set ?_ GE4002.out) | exact HB.out)) hb); clear BK4001; clear BK4002; clear HB; have BK4001 := n0_; have BK4002 := n1_; have HB := n2_; clear n0_ n1_ n2_; (try clear hb); (try clear hb2); (try clear hk); (try clear hi)))
            have n0_ := Aside0.mk (blk_drew BK4001.out)
            have n1_ := Aside0.mk (blk_drew BK4002.out)
            have n2_ := Aside0.mk (below_drew1 HB.out)
            clear BK4001
            clear BK4002
            clear HB
            have BK4001 := n0_
            have BK4002 := n1_
            have HB := n2_
            clear n0_ n1_ n2_
            refine start_ (n := 6) (S := fun w' => w'.cell? ⟨gb4001, 0, none⟩ = some (.int .i64 a0_0) ∧ w'.cell? ⟨gb4001, 1, none⟩ = some (.int .i64 a0_1) ∧ w'.cell? ⟨gb4001, 2, none⟩ = some (.int .i64 a0_2) ∧ w'.cell? ⟨gb4001, 3, none⟩ = some (.slice A0_3 l0_3.length c0_3) ∧ w'.cell? ⟨gb4002, 0, none⟩ = some (.int .i64 a1_0) ∧ w'.cell? ⟨gb4002, 1, none⟩ = some (.int .i64 a1_1) ∧ w'.cell? ⟨gb4002, 2, none⟩ = some (.int .i64 a1_2) ∧ w'.cell? ⟨gb4002, 3, none⟩ = some (.slice A1_3 l1_3.length c1_3)) (ds := []) #[false, false, false, false, false, false] (by kernel_rfl) rfl rfl ⟨(blk_cell BK4001.out 0).trans rfl, (blk_cell BK4001.out 1).trans rfl, (blk_cell BK4001.out 2).trans rfl, (blk_cell BK4001.out 3).trans rfl, (blk_cell BK4002.out 0).trans rfl, (blk_cell BK4002.out 1).trans rfl, (blk_cell BK4002.out 2).trans rfl, (blk_cell BK4002.out 3).trans rfl⟩ (fun hHeld => ?_)
            generalize w42.drew = w43 at BK4001 BK4002 HB hHeld ⊢
            refine take_ (i := 0) (N := some 24) (v := ?_) (a' := ?_) #[true, false, false, false, false, false] rfl rfl (by kernel_rfl) (fun _ _ _ h => h) (Or.inl ⟨by rfl, ?_⟩) hHeld ?_ ?_
            rotate_left
            · rintro w' ⟨s0, s1, s2, s3, s4, s5, s6, s7⟩
              go_simp
              with_reducible rfl
            rotate_left
            · simp only [Act.put, List.setIfInBounds_toArray, List.set_cons_zero, List.set_cons_succ, i64_w, i32_w]
              rfl
            refine take_ (i := 2) (N := some 26) (v := ?_) (a' := ?_) #[true, false, true, false, false, false] rfl rfl (by kernel_rfl) (fun _ _ _ h => h) (Or.inl ⟨by rfl, ?_⟩) hHeld ?_ ?_
            rotate_left
            · rintro w' ⟨s0, s1, s2, s3, s4, s5, s6, s7⟩
              go_simp
              with_reducible rfl
            rotate_left
            · simp only [Act.put, List.setIfInBounds_toArray, List.set_cons_zero, List.set_cons_succ, i64_w, i32_w]
              rfl
            refine one_ (i := 1) (N := some 25) #[true, true, true, false, false, false] rfl rfl (by kernel_rfl) (by decide) (fun K hK => ?_)
            refine goes_ Try.func13 (by kernel_rfl) rfl #[.agg #[.int .i64 a0_0, .int .i64 a0_1, .int .i64 a0_2, .slice A0_3 l0_3.length c0_3]] (by rfl) rfl rfl (by (try simp only [List.map_toArray, List.map_cons, List.map_nil]); first | done | rfl | (simp only [List.length_drop, List.length_take]; rfl)) ?_
            with_reducible refine (laws_toImage.calls k a0_0 a0_1 a0_2 _ _ l0_3 t4005 t4006 t4007 t4008 _ ?side1 ?side2 A19.out).mono ?_
            (case side1 => repeat (first | exact (Kd.C_below HR0_3.out HB.out) | (with_reducible refine Kd.C_alloc ?_ _) | (with_reducible refine Kd.C_drewN ?_ _) | (with_reducible refine Kd.C_drew ?_)))
            (case side2 => exact HC0_3.out)
            rintro e w44 ⟨v4009, rfl, ho0, hb⟩
            refine ⟨_, rfl, ?_⟩
            have n0_ := Aside0.mk (Kd.R_lower ho0 (below_size (by repeat (first | (with_reducible first | exact HB.out | apply below_alloc | apply pw_below_drewN | apply below_drew1 | refine below_set ?_ GE4001.out | refine below_set ?_ GE4002.out) | exact HB.out))))
            have n1_ := Aside0.mk (blk_below (g := gb4001) (o := .cells #[.int .i64 a0_0, .int .i64 a0_1, .int .i64 a0_2, .slice A0_3 l0_3.length c0_3] 24 (0, 0)) (by (with_reducible repeat (first | refine blk_drewN ?_ _ | refine blk_drew ?_ | refine blk_alloc ?_ _)); exact BK4001.out) hb)
            have n2_ := Aside0.mk (blk_below (g := gb4002) (o := .cells #[.int .i64 a1_0, .int .i64 a1_1, .int .i64 a1_2, .slice A1_3 l1_3.length c1_3] 24 (0, 0)) (by (with_reducible repeat (first | refine blk_drewN ?_ _ | refine blk_drew ?_ | refine blk_alloc ?_ _)); exact BK4002.out) hb)
            have n3_ := Aside0.mk (below_step (by repeat (first | (with_reducible first | exact HB.out | apply below_alloc | apply pw_below_drewN | apply below_drew1 | refine below_set ?_ GE4001.out | refine below_set ?_ GE4002.out) | exact HB.out)) hb)
            clear BK4001
            clear BK4002
            clear HB
            have HO4010 := n0_
            have BK4001 := n1_
            have BK4002 := n2_
            have HB := n3_
            clear n0_ n1_ n2_ n3_
            (try clear hb)
            (try clear hb2)
            (try clear hk)
            (try clear hi)
            (try clear ho0)
            refine hK.out _ _ ⟨(blk_cell BK4001.out 0).trans rfl, (blk_cell BK4001.out 1).trans rfl, (blk_cell BK4001.out 2).trans rfl, (blk_cell BK4001.out 3).trans rfl, (blk_cell BK4002.out 0).trans rfl, (blk_cell BK4002.out 1).trans rfl, (blk_cell BK4002.out 2).trans rfl, (blk_cell BK4002.out 3).trans rfl⟩ (fun hHeld => ?_)
            clear hK K
            refine norm_ (a' := ?_) ?_ ?_
            rotate_left
            · show Act.put _ (some 25) _ = _
              simp only [Act.put, List.setIfInBounds_toArray, List.set_cons_zero, List.set_cons_succ, i64_w, i32_w]
              rfl
            refine one_ (i := 3) (N := some 27) #[true, true, true, true, false, false] rfl rfl (by kernel_rfl) (by decide) (fun K hK => ?_)
            refine goes_ Try.func13 (by kernel_rfl) rfl #[.agg #[.int .i64 a1_0, .int .i64 a1_1, .int .i64 a1_2, .slice A1_3 l1_3.length c1_3]] (by rfl) rfl rfl (by (try simp only [List.map_toArray, List.map_cons, List.map_nil]); first | done | rfl | (simp only [List.length_drop, List.length_take]; rfl)) ?_
            with_reducible refine (laws_toImage.calls k a1_0 a1_1 a1_2 _ _ l1_3 t4011 t4012 t4013 t4014 _ ?side1 ?side2 A20.out).mono ?_
            (case side1 => repeat (first | exact (Kd.C_below HR1_3.out HB.out) | (with_reducible refine Kd.C_alloc ?_ _) | (with_reducible refine Kd.C_drewN ?_ _) | (with_reducible refine Kd.C_drew ?_)))
            (case side2 => exact HC1_3.out)
            rintro e w45 ⟨v4015, rfl, ho0, hb⟩
            refine ⟨_, rfl, ?_⟩
            have n0_ := Aside0.mk (Kd.R_elder' (by (with_reducible repeat (first | apply Kd.R_alloc | apply Kd.R_drewN | apply Kd.R_drew)); exact HO4010.out) (Kd.R_base ho0) hb)
            have n1_ := Aside0.mk (Kd.R_lower (Kd.R_new' ho0 (Kd.R_lt (by (with_reducible repeat (first | apply Kd.R_alloc | apply Kd.R_drewN | apply Kd.R_drew)); exact HO4010.out))) (below_size (by repeat (first | (with_reducible first | exact HB.out | apply below_alloc | apply pw_below_drewN | apply below_drew1 | refine below_set ?_ GE4001.out | refine below_set ?_ GE4002.out) | exact HB.out))))
            have n2_ := Aside0.mk (blk_below (g := gb4001) (o := .cells #[.int .i64 a0_0, .int .i64 a0_1, .int .i64 a0_2, .slice A0_3 l0_3.length c0_3] 24 (0, 0)) (by (with_reducible repeat (first | refine blk_drewN ?_ _ | refine blk_drew ?_ | refine blk_alloc ?_ _)); exact BK4001.out) hb)
            have n3_ := Aside0.mk (blk_below (g := gb4002) (o := .cells #[.int .i64 a1_0, .int .i64 a1_1, .int .i64 a1_2, .slice A1_3 l1_3.length c1_3] 24 (0, 0)) (by (with_reducible repeat (first | refine blk_drewN ?_ _ | refine blk_drew ?_ | refine blk_alloc ?_ _)); exact BK4002.out) hb)
            have n4_ := Aside0.mk (below_step (by repeat (first | (with_reducible first | exact HB.out | apply below_alloc | apply pw_below_drewN | apply below_drew1 | refine below_set ?_ GE4001.out | refine below_set ?_ GE4002.out) | exact HB.out)) hb)
            clear HO4010
            clear BK4001
            clear BK4002
            clear HB
            have HO4010 := n0_
            have HO4016 := n1_
            have BK4001 := n2_
            have BK4002 := n3_
            have HB := n4_
            clear n0_ n1_ n2_ n3_ n4_
            (try clear hb)
            (try clear hb2)
            (try clear hk)
            (try clear hi)
            (try clear ho0)
            obtain ⟨Ao46, co46, eo46⟩ := Kd.R_slice HO4010.out
            (first | subst eo46 | (injection eo46 with f1_ f2_ f3_; have f4_ := f1_.symm; have f5_ := f3_.symm; clear f1_ f2_ f3_; subst f4_; subst f5_))
            obtain ⟨Ao47, co47, eo47⟩ := Kd.R_slice HO4016.out
            (first | subst eo47 | (injection eo47 with f1_ f2_ f3_; have f4_ := f1_.symm; have f5_ := f3_.symm; clear f1_ f2_ f3_; subst f4_; subst f5_))
            refine hK.out _ _ ⟨(blk_cell BK4001.out 0).trans rfl, (blk_cell BK4001.out 1).trans rfl, (blk_cell BK4001.out 2).trans rfl, (blk_cell BK4001.out 3).trans rfl, (blk_cell BK4002.out 0).trans rfl, (blk_cell BK4002.out 1).trans rfl, (blk_cell BK4002.out 2).trans rfl, (blk_cell BK4002.out 3).trans rfl⟩ (fun hHeld => ?_)
            clear hK K
            refine norm_ (a' := ?_) ?_ ?_
            rotate_left
            · show Act.put _ (some 27) _ = _
              simp only [Act.put, List.setIfInBounds_toArray, List.set_cons_zero, List.set_cons_succ, i64_w, i32_w]
              rfl
            refine one_ (i := 4) (N := some 28) #[true, true, true, true, true, false] rfl rfl (by kernel_rfl) (by decide) (fun K hK => ?_)
            refine goes_ Try.func12 (by kernel_rfl) rfl #[.agg #[.int .i64 t4005, .int .i64 t4006, .int .i64 t4007, .slice Ao46 t4008.length co46], .agg #[.int .i64 t4011, .int .i64 t4012, .int .i64 t4013, .slice Ao47 t4014.length co47]] (by rfl) rfl rfl (by (try simp only [List.map_toArray, List.map_cons, List.map_nil]); first | done | rfl | (simp only [List.length_drop, List.length_take]; rfl)) ?_
            with_reducible refine (spec_ChangedRegion.calls k t4005 t4006 t4007 _ _ t4008 t4011 t4012 t4013 _ _ t4014 t4017 _ ?side1 ?side2 ?side3 ?side4 A21.out).mono ?_
            (case side1 => repeat (first | exact (Kd.R_reads' HO4010.out).2.2 | (with_reducible refine Kd.C_alloc ?_ _) | (with_reducible refine Kd.C_drewN ?_ _) | (with_reducible refine Kd.C_drew ?_)))
            (case side2 => exact (Kd.R_reads' HO4010.out).2.1)
            (case side3 => repeat (first | exact (Kd.R_reads' HO4016.out).2.2 | (with_reducible refine Kd.C_alloc ?_ _) | (with_reducible refine Kd.C_drewN ?_ _) | (with_reducible refine Kd.C_drew ?_)))
            (case side4 => exact (Kd.R_reads' HO4016.out).2.1)
            rintro e w48 ⟨v4018, rfl, ho0, hb⟩
            refine ⟨_, rfl, ?_⟩
            have n0_ := Aside0.mk (Kd.R_below (by (with_reducible repeat (first | apply Kd.R_alloc | apply Kd.R_drewN | apply Kd.R_drew)); exact HO4010.out) hb)
            have n1_ := Aside0.mk (Kd.R_below (by (with_reducible repeat (first | apply Kd.R_alloc | apply Kd.R_drewN | apply Kd.R_drew)); exact HO4016.out) hb)
            have n2_ := Aside0.mk (Kd.R_lower ho0 (below_size (by repeat (first | (with_reducible first | exact HB.out | apply below_alloc | apply pw_below_drewN | apply below_drew1 | refine below_set ?_ GE4001.out | refine below_set ?_ GE4002.out) | exact HB.out))))
            have n3_ := Aside0.mk (blk_below (g := gb4001) (o := .cells #[.int .i64 a0_0, .int .i64 a0_1, .int .i64 a0_2, .slice A0_3 l0_3.length c0_3] 24 (0, 0)) (by (with_reducible repeat (first | refine blk_drewN ?_ _ | refine blk_drew ?_ | refine blk_alloc ?_ _)); exact BK4001.out) hb)
            have n4_ := Aside0.mk (blk_below (g := gb4002) (o := .cells #[.int .i64 a1_0, .int .i64 a1_1, .int .i64 a1_2, .slice A1_3 l1_3.length c1_3] 24 (0, 0)) (by (with_reducible repeat (first | refine blk_drewN ?_ _ | refine blk_drew ?_ | refine blk_alloc ?_ _)); exact BK4002.out) hb)
            have n5_ := Aside0.mk (below_step (by repeat (first | (with_reducible first | exact HB.out | apply below_alloc | apply pw_below_drewN | apply below_drew1 | refine below_set ?_ GE4001.out | refine below_set ?_ GE4002.out) | exact HB.out)) hb)
            clear HO4010
            clear HO4016
            clear BK4001
            clear BK4002
            clear HB
            have HO4010 := n0_
            have HO4016 := n1_
            have HO4019 := n2_
            have BK4001 := n3_
            have BK4002 := n4_
            have HB := n5_
            clear n0_ n1_ n2_ n3_ n4_ n5_
            (try clear hb)
            (try clear hb2)
            (try clear hk)
            (try clear hi)
            (try clear ho0)
            refine hK.out _ _ ⟨(blk_cell BK4001.out 0).trans rfl, (blk_cell BK4001.out 1).trans rfl, (blk_cell BK4001.out 2).trans rfl, (blk_cell BK4001.out 3).trans rfl, (blk_cell BK4002.out 0).trans rfl, (blk_cell BK4002.out 1).trans rfl, (blk_cell BK4002.out 2).trans rfl, (blk_cell BK4002.out 3).trans rfl⟩ (fun hHeld => ?_)
            clear hK K
            refine norm_ (a' := ?_) ?_ ?_
            rotate_left
            · show Act.put _ (some 28) _ = _
              simp only [Act.put, List.setIfInBounds_toArray, List.set_cons_zero, List.set_cons_succ, i64_w, i32_w]
              rfl
            refine pure_ (i := 5) (N := some 6) (v := ?_) (a' := ?_) #[true, true, true, true, true, true] rfl rfl (by kernel_rfl) (fun _ _ _ h => h) (Or.inl ⟨by rfl, ?_⟩) ?_ ?_
            rotate_left
            · intro w'
              go_simp
              with_reducible rfl
            rotate_left
            · simp only [Act.put, List.setIfInBounds_toArray, List.set_cons_zero, List.set_cons_succ, i64_w, i32_w]
              rfl
            refine done_ (by kernel_rfl) ?_
            have hcz49_0 : w48.cell? ⟨gb4001, 0, none⟩ = some (.int .i64 a0_0) := (blk_cell BK4001.out 0).trans rfl
            have hcz49_1 : w48.cell? ⟨gb4001, 1, none⟩ = some (.int .i64 a0_1) := (blk_cell BK4001.out 1).trans rfl
            have hcz49_2 : w48.cell? ⟨gb4001, 2, none⟩ = some (.int .i64 a0_2) := (blk_cell BK4001.out 2).trans rfl
            have hcz49_3 : w48.cell? ⟨gb4001, 3, none⟩ = some (.slice A0_3 l0_3.length c0_3) := (blk_cell BK4001.out 3).trans rfl
            have hfz49_0 := blk_frozen BK4001.out 0
            have hfz49_1 := blk_frozen BK4001.out 1
            have hfz49_2 := blk_frozen BK4001.out 2
            have hfz49_3 := blk_frozen BK4001.out 3
            try go_wp2_with (first | ((with_reducible refine gate_callee (f := 13) rfl ?_); refine goesL_ (some 30) rfl rfl Try.func13 (by kernel_rfl) rfl #[.agg #[.int .i64 a0_0, .int .i64 a0_1, .int .i64 a0_2, .slice A0_3 l0_3.length c0_3]] rfl (by (try simp only [List.map_toArray, List.map_cons, List.map_nil]); first | done | rfl | (simp only [List.length_drop, List.length_take]; rfl)) ?_; (with_reducible refine (laws_toImage.calls k a0_0 a0_1 a0_2 _ _ l0_3 t4020 t4021 t4022 t4023 _ ?side1 ?side2 A22.out).mono ?_); (case side1 => repeat (first | exact (Kd.C_below HR0_3.out HB.out) | (with_reducible refine Kd.C_alloc ?_ _) | (with_reducible refine Kd.C_drewN ?_ _) | (with_reducible refine Kd.C_drew ?_))); (case side2 => exact HC0_3.out); rintro e w50 ⟨v4024, rfl, ho0, hb⟩; refine ⟨_, rfl, ?_⟩; have n0_ := Aside0.mk (Kd.R_elder' (by (with_reducible repeat (first | apply Kd.R_alloc | apply Kd.R_drewN | apply Kd.R_drew)); exact HO4010.out) (Kd.R_base ho0) hb); have n1_ := Aside0.mk (Kd.R_elder' (by (with_reducible repeat (first | apply Kd.R_alloc | apply Kd.R_drewN | apply Kd.R_drew)); exact HO4016.out) (Kd.R_base ho0) hb); have n2_ := Aside0.mk (Kd.R_below (by (with_reducible repeat (first | apply Kd.R_alloc | apply Kd.R_drewN | apply Kd.R_drew)); exact HO4019.out) hb); have n3_ := Aside0.mk (Kd.R_lower (Kd.R_new' (Kd.R_new' ho0 (Kd.R_lt (by (with_reducible repeat (first | apply Kd.R_alloc | apply Kd.R_drewN | apply Kd.R_drew)); exact HO4010.out))) (Kd.R_lt (by (with_reducible repeat (first | apply Kd.R_alloc | apply Kd.R_drewN | apply Kd.R_drew)); exact HO4016.out))) (below_size (by repeat (first | (with_reducible first | exact HB.out | apply below_alloc | apply pw_below_drewN | apply below_drew1 | refine below_set ?_ GE4001.out | refine below_set ?_ GE4002.out) | exact HB.out)))); have n4_ := Aside0.mk (blk_below (g := gb4001) (o := .cells #[.int .i64 a0_0, .int .i64 a0_1, .int .i64 a0_2, .slice A0_3 l0_3.length c0_3] 24 (0, 0)) (by (with_reducible repeat (first | refine blk_drewN ?_ _ | refine blk_drew ?_ | refine blk_alloc ?_ _)); exact BK4001.out) hb); have n5_ := Aside0.mk (blk_below (g := gb4002) (o := .cells #[.int .i64 a1_0, .int .i64 a1_1, .int .i64 a1_2, .slice A1_3 l1_3.length c1_3] 24 (0, 0)) (by (with_reducible repeat (first | refine blk_drewN ?_ _ | refine blk_drew ?_ | refine blk_alloc ?_ _)); exact BK4002.out) hb); have n6_ := Aside0.mk (below_step (by repeat (first | (with_reducible first | exact HB.out | apply below_alloc | apply pw_below_drewN | apply below_drew1 | refine below_set ?_ GE4001.out | refine below_set ?_ GE4002.out) | exact HB.out)) hb); clear HO4010; clear HO4016; clear HO4019; clear BK4001; clear BK4002; clear HB; have HO4010 := n0_; have HO4016 := n1_; have HO4019 := n2_; have HO4025 := n3_; have BK4001 := n4_; have BK4002 := n5_; have HB := n6_; clear n0_ n1_ n2_ n3_ n4_ n5_ n6_; (try clear hb); (try clear hb2); (try clear hk); (try clear hi); (try clear ho0)) | ((with_reducible refine gate_dst (N := 7) rfl ?_); refine box_event ?hg (N := 7) ?hd (cs := #[.int .i64 0, .int .i64 0, .int .i64 0, .slice none 0 0]) (t := 28) ?hr ?_; (case hd => rfl); (case hg => rfl); (case hr => first | (go_simp; done) | (go_simp; rfl)); intro gb4026 hg w51 hbox hb; have n0_ := Aside0.mk (Kd.R_below (by (with_reducible repeat (first | apply Kd.R_alloc | apply Kd.R_drewN | apply Kd.R_drew)); exact HO4010.out) hb); have n1_ := Aside0.mk (Kd.R_below (by (with_reducible repeat (first | apply Kd.R_alloc | apply Kd.R_drewN | apply Kd.R_drew)); exact HO4016.out) hb); have n2_ := Aside0.mk (Kd.R_below (by (with_reducible repeat (first | apply Kd.R_alloc | apply Kd.R_drewN | apply Kd.R_drew)); exact HO4019.out) hb); have n3_ := Aside0.mk (Kd.R_below (by (with_reducible repeat (first | apply Kd.R_alloc | apply Kd.R_drewN | apply Kd.R_drew)); exact HO4025.out) hb); have n4_ := Aside0.mk (blk_below (g := gb4001) (o := .cells #[.int .i64 a0_0, .int .i64 a0_1, .int .i64 a0_2, .slice A0_3 l0_3.length c0_3] 24 (0, 0)) (by (with_reducible repeat (first | refine blk_drewN ?_ _ | refine blk_drew ?_ | refine blk_alloc ?_ _)); exact BK4001.out) hb); have n5_ := Aside0.mk (blk_below (g := gb4002) (o := .cells #[.int .i64 a1_0, .int .i64 a1_1, .int .i64 a1_2, .slice A1_3 l1_3.length c1_3] 24 (0, 0)) (by (with_reducible repeat (first | refine blk_drewN ?_ _ | refine blk_drew ?_ | refine blk_alloc ?_ _)); exact BK4002.out) hb); have n6_ := Aside0.mk (below_step (by repeat (first | (with_reducible first | exact HB.out | apply below_alloc | apply pw_below_drewN | apply below_drew1 | refine below_set ?_ GE4001.out | refine below_set ?_ GE4002.out) | exact HB.out)) hb); have n7_ := Aside0.mk (hbox); have n8_ := Aside0.mk ((by rw [hg]; exact (below_size (by repeat (first | (with_reducible first | exact HB.out | apply below_alloc | apply pw_below_drewN | apply below_drew1 | refine below_set ?_ GE4001.out | refine below_set ?_ GE4002.out) | exact HB.out))) : w.heap.size ≤ gb4026)); have n9_ := Aside0.mk ((by rw [hg]; exact (below_size (by repeat (first | (with_reducible first | exact HB.out | apply below_alloc | apply pw_below_drewN | apply below_drew1 | refine below_set ?_ GE4001.out | refine below_set ?_ GE4002.out) | exact HB.out))) : w.heap.size ≤ gb4026)); have n10_ := Aside0.mk ((by rw [hg]; exact Nat.ne_of_lt (blk_lt (g := gb4001) (o := .cells #[.int .i64 a0_0, .int .i64 a0_1, .int .i64 a0_2, .slice A0_3 l0_3.length c0_3] 24 (0, 0)) (by (with_reducible repeat (first | refine blk_drewN ?_ _ | refine blk_drew ?_ | refine blk_alloc ?_ _)); exact BK4001.out)) : gb4001 ≠ gb4026)); have n11_ := Aside0.mk ((by rw [hg]; exact Nat.ne_of_gt (blk_lt (g := gb4001) (o := .cells #[.int .i64 a0_0, .int .i64 a0_1, .int .i64 a0_2, .slice A0_3 l0_3.length c0_3] 24 (0, 0)) (by (with_reducible repeat (first | refine blk_drewN ?_ _ | refine blk_drew ?_ | refine blk_alloc ?_ _)); exact BK4001.out)) : gb4026 ≠ gb4001)); have n12_ := Aside0.mk ((by rw [hg]; exact Nat.ne_of_lt (blk_lt (g := gb4002) (o := .cells #[.int .i64 a1_0, .int .i64 a1_1, .int .i64 a1_2, .slice A1_3 l1_3.length c1_3] 24 (0, 0)) (by (with_reducible repeat (first | refine blk_drewN ?_ _ | refine blk_drew ?_ | refine blk_alloc ?_ _)); exact BK4002.out)) : gb4002 ≠ gb4026)); have n13_ := Aside0.mk ((by rw [hg]; exact Nat.ne_of_gt (blk_lt (g := gb4002) (o := .cells #[.int .i64 a1_0, .int .i64 a1_1, .int .i64 a1_2, .slice A1_3 l1_3.length c1_3] 24 (0, 0)) (by (with_reducible repeat (first | refine blk_drewN ?_ _ | refine blk_drew ?_ | refine blk_alloc ?_ _)); exact BK4002.out)) : gb4026 ≠ gb4002)); clear HO4010; clear HO4016; clear HO4019; clear HO4025; clear BK4001; clear BK4002; clear HB; have HO4010 := n0_; have HO4016 := n1_; have HO4019 := n2_; have HO4025 := n3_; have BK4001 := n4_; have BK4002 := n5_; have HB := n6_; have BK4026 := n7_; have GW4026 := n8_; have GE4026 := n9_; have NB4001_4026 := n10_; have NB4026_4001 := n11_; have NB4002_4026 := n12_; have NB4026_4002 := n13_; clear n0_ n1_ n2_ n3_ n4_ n5_ n6_ n7_ n8_ n9_ n10_ n11_ n12_ n13_; clear hb hbox hg; have hnb52 := NB4026_4001.out; have hnc52 := NB4001_4026.out; have hnb53 := NB4026_4002.out; have hnc53 := NB4002_4026.out; have hcz54_0 : w51.cell? ⟨gb4026, 0, none⟩ = some (.int .i64 0) := (blk_cell BK4026.out 0).trans rfl; have hcz54_1 : w51.cell? ⟨gb4026, 1, none⟩ = some (.int .i64 0) := (blk_cell BK4026.out 1).trans rfl; have hcz54_2 : w51.cell? ⟨gb4026, 2, none⟩ = some (.int .i64 0) := (blk_cell BK4026.out 2).trans rfl; have hcz54_3 : w51.cell? ⟨gb4026, 3, none⟩ = some (.slice none 0 0) := (blk_cell BK4026.out 3).trans rfl; have hfz54_0 := blk_frozen BK4026.out 0; have hfz54_1 := blk_frozen BK4026.out 1; have hfz54_2 := blk_frozen BK4026.out 2; have hfz54_3 := blk_frozen BK4026.out 3; obtain ⟨Ao55, co55, eo55⟩ := Kd.R_slice HO4025.out; subst eo55; have hcz56_0 : w51.cell? ⟨gb4002, 0, none⟩ = some (.int .i64 a1_0) := (blk_cell BK4002.out 0).trans rfl; have hcz56_1 : w51.cell? ⟨gb4002, 1, none⟩ = some (.int .i64 a1_1) := (blk_cell BK4002.out 1).trans rfl; have hcz56_2 : w51.cell? ⟨gb4002, 2, none⟩ = some (.int .i64 a1_2) := (blk_cell BK4002.out 2).trans rfl; have hcz56_3 : w51.cell? ⟨gb4002, 3, none⟩ = some (.slice A1_3 l1_3.length c1_3) := (blk_cell BK4002.out 3).trans rfl; have hfz56_0 := blk_frozen BK4002.out 0; have hfz56_1 := blk_frozen BK4002.out 1; have hfz56_2 := blk_frozen BK4002.out 2; have hfz56_3 := blk_frozen BK4002.out 3) | ((with_reducible refine gate_callee (f := 13) rfl ?_); refine goesL_ (some 32) rfl rfl Try.func13 (by kernel_rfl) rfl #[.agg #[.int .i64 a1_0, .int .i64 a1_1, .int .i64 a1_2, .slice A1_3 l1_3.length c1_3]] rfl (by (try simp only [List.map_toArray, List.map_cons, List.map_nil]); first | done | rfl | (simp only [List.length_drop, List.length_take]; rfl)) ?_; (with_reducible refine (laws_toImage.calls k a1_0 a1_1 a1_2 _ _ l1_3 t4027 t4028 t4029 t4030 _ ?side1 ?side2 A23.out).mono ?_); (case side1 => exact Kd.C_below HR1_3.out (by repeat (first | (with_reducible first | exact HB.out | apply below_alloc | apply pw_below_drewN | apply below_drew1 | refine below_set ?_ GE4001.out | refine below_set ?_ GE4002.out | refine below_set ?_ GE4026.out) | exact HB.out))); (case side2 => exact HC1_3.out); rintro e w57 ⟨v4031, rfl, ho0, hb⟩; refine ⟨_, rfl, ?_⟩; have n0_ := Aside0.mk (Kd.R_elder' (by (with_reducible repeat (first | apply Kd.R_alloc | apply Kd.R_drewN | apply Kd.R_drew)); exact (Kd.R_mono (Kd.R_far (p := ⟨gb4026, 3, none⟩) (Kd.R_far (p := ⟨gb4026, 2, none⟩) (Kd.R_far (p := ⟨gb4026, 1, none⟩) (Kd.R_far (p := ⟨gb4026, 0, none⟩) (Kd.R_types HO4010.out BK4026.out (by decide)) (fun _ hk => hk.2) (.int .i64 t4020)) (fun _ hk => hk.2) (.int .i64 t4021)) (fun _ hk => hk.2) (.int .i64 t4022)) (fun _ hk => hk.2) (.slice Ao55 t4023.length co55)) (fun _ h_ => h_.1))) (Kd.R_base ho0) hb); have n1_ := Aside0.mk (Kd.R_elder' (by (with_reducible repeat (first | apply Kd.R_alloc | apply Kd.R_drewN | apply Kd.R_drew)); exact (Kd.R_mono (Kd.R_far (p := ⟨gb4026, 3, none⟩) (Kd.R_far (p := ⟨gb4026, 2, none⟩) (Kd.R_far (p := ⟨gb4026, 1, none⟩) (Kd.R_far (p := ⟨gb4026, 0, none⟩) (Kd.R_types HO4016.out BK4026.out (by decide)) (fun _ hk => hk.2) (.int .i64 t4020)) (fun _ hk => hk.2) (.int .i64 t4021)) (fun _ hk => hk.2) (.int .i64 t4022)) (fun _ hk => hk.2) (.slice Ao55 t4023.length co55)) (fun _ h_ => h_.1))) (Kd.R_base ho0) hb); have n2_ := Aside0.mk (Kd.R_below (by (with_reducible repeat (first | apply Kd.R_alloc | apply Kd.R_drewN | apply Kd.R_drew)); exact (Kd.R_mono (Kd.R_far (p := ⟨gb4026, 3, none⟩) (Kd.R_far (p := ⟨gb4026, 2, none⟩) (Kd.R_far (p := ⟨gb4026, 1, none⟩) (Kd.R_far (p := ⟨gb4026, 0, none⟩) (Kd.R_types HO4019.out BK4026.out (by decide)) (fun _ hk => hk.2) (.int .i64 t4020)) (fun _ hk => hk.2) (.int .i64 t4021)) (fun _ hk => hk.2) (.int .i64 t4022)) (fun _ hk => hk.2) (.slice Ao55 t4023.length co55)) (fun _ h_ => h_.1))) hb); have n3_ := Aside0.mk (Kd.R_elder' (by (with_reducible repeat (first | apply Kd.R_alloc | apply Kd.R_drewN | apply Kd.R_drew)); exact (Kd.R_mono (Kd.R_far (p := ⟨gb4026, 3, none⟩) (Kd.R_far (p := ⟨gb4026, 2, none⟩) (Kd.R_far (p := ⟨gb4026, 1, none⟩) (Kd.R_far (p := ⟨gb4026, 0, none⟩) (Kd.R_types HO4025.out BK4026.out (by decide)) (fun _ hk => hk.2) (.int .i64 t4020)) (fun _ hk => hk.2) (.int .i64 t4021)) (fun _ hk => hk.2) (.int .i64 t4022)) (fun _ hk => hk.2) (.slice Ao55 t4023.length co55)) (fun _ h_ => h_.1))) (Kd.R_base ho0) hb); have n4_ := Aside0.mk (Kd.R_lower (Kd.R_new' (Kd.R_new' (Kd.R_new' ho0 (Kd.R_lt (by (with_reducible repeat (first | apply Kd.R_alloc | apply Kd.R_drewN | apply Kd.R_drew)); exact (Kd.R_mono (Kd.R_far (p := ⟨gb4026, 3, none⟩) (Kd.R_far (p := ⟨gb4026, 2, none⟩) (Kd.R_far (p := ⟨gb4026, 1, none⟩) (Kd.R_far (p := ⟨gb4026, 0, none⟩) (Kd.R_types HO4010.out BK4026.out (by decide)) (fun _ hk => hk.2) (.int .i64 t4020)) (fun _ hk => hk.2) (.int .i64 t4021)) (fun _ hk => hk.2) (.int .i64 t4022)) (fun _ hk => hk.2) (.slice Ao55 t4023.length co55)) (fun _ h_ => h_.1))))) (Kd.R_lt (by (with_reducible repeat (first | apply Kd.R_alloc | apply Kd.R_drewN | apply Kd.R_drew)); exact (Kd.R_mono (Kd.R_far (p := ⟨gb4026, 3, none⟩) (Kd.R_far (p := ⟨gb4026, 2, none⟩) (Kd.R_far (p := ⟨gb4026, 1, none⟩) (Kd.R_far (p := ⟨gb4026, 0, none⟩) (Kd.R_types HO4016.out BK4026.out (by decide)) (fun _ hk => hk.2) (.int .i64 t4020)) (fun _ hk => hk.2) (.int .i64 t4021)) (fun _ hk => hk.2) (.int .i64 t4022)) (fun _ hk => hk.2) (.slice Ao55 t4023.length co55)) (fun _ h_ => h_.1))))) (Kd.R_lt (by (with_reducible repeat (first | apply Kd.R_alloc | apply Kd.R_drewN | apply Kd.R_drew)); exact (Kd.R_mono (Kd.R_far (p := ⟨gb4026, 3, none⟩) (Kd.R_far (p := ⟨gb4026, 2, none⟩) (Kd.R_far (p := ⟨gb4026, 1, none⟩) (Kd.R_far (p := ⟨gb4026, 0, none⟩) (Kd.R_types HO4025.out BK4026.out (by decide)) (fun _ hk => hk.2) (.int .i64 t4020)) (fun _ hk => hk.2) (.int .i64 t4021)) (fun _ hk => hk.2) (.int .i64 t4022)) (fun _ hk => hk.2) (.slice Ao55 t4023.length co55)) (fun _ h_ => h_.1))))) (below_size (by repeat (first | (with_reducible first | exact HB.out | apply below_alloc | apply pw_below_drewN | apply below_drew1 | refine below_set ?_ GE4001.out | refine below_set ?_ GE4002.out | refine below_set ?_ GE4026.out) | exact HB.out)))); have n5_ := Aside0.mk (blk_below (g := gb4001) (o := .cells #[.int .i64 a0_0, .int .i64 a0_1, .int .i64 a0_2, .slice A0_3 l0_3.length c0_3] 24 (0, 0)) (by (with_reducible repeat (first | refine blk_drewN ?_ _ | refine blk_drew ?_ | refine blk_alloc ?_ _)); refine blk_far ?_ NB4001_4026.out _; (with_reducible repeat (first | refine blk_drewN ?_ _ | refine blk_drew ?_ | refine blk_alloc ?_ _)); refine blk_far ?_ NB4001_4026.out _; (with_reducible repeat (first | refine blk_drewN ?_ _ | refine blk_drew ?_ | refine blk_alloc ?_ _)); refine blk_far ?_ NB4001_4026.out _; (with_reducible repeat (first | refine blk_drewN ?_ _ | refine blk_drew ?_ | refine blk_alloc ?_ _)); refine blk_far ?_ NB4001_4026.out _; (with_reducible repeat (first | refine blk_drewN ?_ _ | refine blk_drew ?_ | refine blk_alloc ?_ _)); exact BK4001.out) hb); have n6_ := Aside0.mk (blk_below (g := gb4002) (o := .cells #[.int .i64 a1_0, .int .i64 a1_1, .int .i64 a1_2, .slice A1_3 l1_3.length c1_3] 24 (0, 0)) (by (with_reducible repeat (first | refine blk_drewN ?_ _ | refine blk_drew ?_ | refine blk_alloc ?_ _)); refine blk_far ?_ NB4002_4026.out _; (with_reducible repeat (first | refine blk_drewN ?_ _ | refine blk_drew ?_ | refine blk_alloc ?_ _)); refine blk_far ?_ NB4002_4026.out _; (with_reducible repeat (first | refine blk_drewN ?_ _ | refine blk_drew ?_ | refine blk_alloc ?_ _)); refine blk_far ?_ NB4002_4026.out _; (with_reducible repeat (first | refine blk_drewN ?_ _ | refine blk_drew ?_ | refine blk_alloc ?_ _)); refine blk_far ?_ NB4002_4026.out _; (with_reducible repeat (first | refine blk_drewN ?_ _ | refine blk_drew ?_ | refine blk_alloc ?_ _)); exact BK4002.out) hb); have n7_ := Aside0.mk (blk_below (g := gb4026) (o := .cells #[.int .i64 t4020, .int .i64 t4021, .int .i64 t4022, .slice Ao55 t4023.length co55] 28 (0, 0)) (by (with_reducible repeat (first | refine blk_drewN ?_ _ | refine blk_drew ?_ | refine blk_alloc ?_ _)); refine blk_put (cs := #[.int .i64 t4020, .int .i64 t4021, .int .i64 t4022, .slice none 0 0]) ?_ 3 _ rfl; (with_reducible repeat (first | refine blk_drewN ?_ _ | refine blk_drew ?_ | refine blk_alloc ?_ _)); refine blk_put (cs := #[.int .i64 t4020, .int .i64 t4021, .int .i64 0, .slice none 0 0]) ?_ 2 _ rfl; (with_reducible repeat (first | refine blk_drewN ?_ _ | refine blk_drew ?_ | refine blk_alloc ?_ _)); refine blk_put (cs := #[.int .i64 t4020, .int .i64 0, .int .i64 0, .slice none 0 0]) ?_ 1 _ rfl; (with_reducible repeat (first | refine blk_drewN ?_ _ | refine blk_drew ?_ | refine blk_alloc ?_ _)); refine blk_put (cs := #[.int .i64 0, .int .i64 0, .int .i64 0, .slice none 0 0]) ?_ 0 _ rfl; (with_reducible repeat (first | refine blk_drewN ?_ _ | refine blk_drew ?_ | refine blk_alloc ?_ _)); exact BK4026.out) hb); have n8_ := Aside0.mk (below_step (by repeat (first | (with_reducible first | exact HB.out | apply below_alloc | apply pw_below_drewN | apply below_drew1 | refine below_set ?_ GE4001.out | refine below_set ?_ GE4002.out | refine below_set ?_ GE4026.out) | exact HB.out)) hb); clear HO4010; clear HO4016; clear HO4019; clear HO4025; clear BK4001; clear BK4002; clear BK4026; clear HB; have HO4010 := n0_; have HO4016 := n1_; have HO4019 := n2_; have HO4025 := n3_; have HO4032 := n4_; have BK4001 := n5_; have BK4002 := n6_; have BK4026 := n7_; have HB := n8_; clear n0_ n1_ n2_ n3_ n4_ n5_ n6_ n7_ n8_; (try clear hb); (try clear hb2); (try clear hk); (try clear hi); (try clear ho0)) | ((with_reducible refine gate_dst (N := 8) rfl ?_); refine box_event ?hg (N := 8) ?hd (cs := #[.int .i64 0, .int .i64 0, .int .i64 0, .slice none 0 0]) (t := 28) ?hr ?_; (case hd => rfl); (case hg => rfl); (case hr => first | (go_simp; done) | (go_simp; rfl)); intro gb4033 hg w58 hbox hb; have n0_ := Aside0.mk (Kd.R_below (by (with_reducible repeat (first | apply Kd.R_alloc | apply Kd.R_drewN | apply Kd.R_drew)); exact HO4010.out) hb); have n1_ := Aside0.mk (Kd.R_below (by (with_reducible repeat (first | apply Kd.R_alloc | apply Kd.R_drewN | apply Kd.R_drew)); exact HO4016.out) hb); have n2_ := Aside0.mk (Kd.R_below (by (with_reducible repeat (first | apply Kd.R_alloc | apply Kd.R_drewN | apply Kd.R_drew)); exact HO4019.out) hb); have n3_ := Aside0.mk (Kd.R_below (by (with_reducible repeat (first | apply Kd.R_alloc | apply Kd.R_drewN | apply Kd.R_drew)); exact HO4025.out) hb); have n4_ := Aside0.mk (Kd.R_below (by (with_reducible repeat (first | apply Kd.R_alloc | apply Kd.R_drewN | apply Kd.R_drew)); exact HO4032.out) hb); have n5_ := Aside0.mk (blk_below (g := gb4001) (o := .cells #[.int .i64 a0_0, .int .i64 a0_1, .int .i64 a0_2, .slice A0_3 l0_3.length c0_3] 24 (0, 0)) (by (with_reducible repeat (first | refine blk_drewN ?_ _ | refine blk_drew ?_ | refine blk_alloc ?_ _)); exact BK4001.out) hb); have n6_ := Aside0.mk (blk_below (g := gb4002) (o := .cells #[.int .i64 a1_0, .int .i64 a1_1, .int .i64 a1_2, .slice A1_3 l1_3.length c1_3] 24 (0, 0)) (by (with_reducible repeat (first | refine blk_drewN ?_ _ | refine blk_drew ?_ | refine blk_alloc ?_ _)); exact BK4002.out) hb); have n7_ := Aside0.mk (blk_below (g := gb4026) (o := .cells #[.int .i64 t4020, .int .i64 t4021, .int .i64 t4022, .slice Ao55 t4023.length co55] 28 (0, 0)) (by (with_reducible repeat (first | refine blk_drewN ?_ _ | refine blk_drew ?_ | refine blk_alloc ?_ _)); exact BK4026.out) hb); have n8_ := Aside0.mk (below_step (by repeat (first | (with_reducible first | exact HB.out | apply below_alloc | apply pw_below_drewN | apply below_drew1 | refine below_set ?_ GE4001.out | refine below_set ?_ GE4002.out | refine below_set ?_ GE4026.out) | exact HB.out)) hb); have n9_ := Aside0.mk (hbox); have n10_ := Aside0.mk ((by rw [hg]; exact (below_size (by repeat (first | (with_reducible first | exact HB.out | apply below_alloc | apply pw_below_drewN | apply below_drew1 | refine below_set ?_ GE4001.out | refine below_set ?_ GE4002.out | refine below_set ?_ GE4026.out) | exact HB.out))) : w.heap.size ≤ gb4033)); have n11_ := Aside0.mk ((by rw [hg]; exact (below_size (by repeat (first | (with_reducible first | exact HB.out | apply below_alloc | apply pw_below_drewN | apply below_drew1 | refine below_set ?_ GE4001.out | refine below_set ?_ GE4002.out | refine below_set ?_ GE4026.out) | exact HB.out))) : w.heap.size ≤ gb4033)); have n12_ := Aside0.mk ((by rw [hg]; exact Nat.ne_of_lt (blk_lt (g := gb4001) (o := .cells #[.int .i64 a0_0, .int .i64 a0_1, .int .i64 a0_2, .slice A0_3 l0_3.length c0_3] 24 (0, 0)) (by (with_reducible repeat (first | refine blk_drewN ?_ _ | refine blk_drew ?_ | refine blk_alloc ?_ _)); exact BK4001.out)) : gb4001 ≠ gb4033)); have n13_ := Aside0.mk ((by rw [hg]; exact Nat.ne_of_gt (blk_lt (g := gb4001) (o := .cells #[.int .i64 a0_0, .int .i64 a0_1, .int .i64 a0_2, .slice A0_3 l0_3.length c0_3] 24 (0, 0)) (by (with_reducible repeat (first | refine blk_drewN ?_ _ | refine blk_drew ?_ | refine blk_alloc ?_ _)); exact BK4001.out)) : gb4033 ≠ gb4001)); have n14_ := Aside0.mk ((by rw [hg]; exact Nat.ne_of_lt (blk_lt (g := gb4002) (o := .cells #[.int .i64 a1_0, .int .i64 a1_1, .int .i64 a1_2, .slice A1_3 l1_3.length c1_3] 24 (0, 0)) (by (with_reducible repeat (first | refine blk_drewN ?_ _ | refine blk_drew ?_ | refine blk_alloc ?_ _)); exact BK4002.out)) : gb4002 ≠ gb4033)); have n15_ := Aside0.mk ((by rw [hg]; exact Nat.ne_of_gt (blk_lt (g := gb4002) (o := .cells #[.int .i64 a1_0, .int .i64 a1_1, .int .i64 a1_2, .slice A1_3 l1_3.length c1_3] 24 (0, 0)) (by (with_reducible repeat (first | refine blk_drewN ?_ _ | refine blk_drew ?_ | refine blk_alloc ?_ _)); exact BK4002.out)) : gb4033 ≠ gb4002)); have n16_ := Aside0.mk ((by rw [hg]; exact Nat.ne_of_lt (blk_lt (g := gb4026) (o := .cells #[.int .i64 t4020, .int .i64 t4021, .int .i64 t4022, .slice Ao55 t4023.length co55] 28 (0, 0)) (by (with_reducible repeat (first | refine blk_drewN ?_ _ | refine blk_drew ?_ | refine blk_alloc ?_ _)); exact BK4026.out)) : gb4026 ≠ gb4033)); have n17_ := Aside0.mk ((by rw [hg]; exact Nat.ne_of_gt (blk_lt (g := gb4026) (o := .cells #[.int .i64 t4020, .int .i64 t4021, .int .i64 t4022, .slice Ao55 t4023.length co55] 28 (0, 0)) (by (with_reducible repeat (first | refine blk_drewN ?_ _ | refine blk_drew ?_ | refine blk_alloc ?_ _)); exact BK4026.out)) : gb4033 ≠ gb4026)); clear HO4010; clear HO4016; clear HO4019; clear HO4025; clear HO4032; clear BK4001; clear BK4002; clear BK4026; clear HB; have HO4010 := n0_; have HO4016 := n1_; have HO4019 := n2_; have HO4025 := n3_; have HO4032 := n4_; have BK4001 := n5_; have BK4002 := n6_; have BK4026 := n7_; have HB := n8_; have BK4033 := n9_; have GW4033 := n10_; have GE4033 := n11_; have NB4001_4033 := n12_; have NB4033_4001 := n13_; have NB4002_4033 := n14_; have NB4033_4002 := n15_; have NB4026_4033 := n16_; have NB4033_4026 := n17_; clear n0_ n1_ n2_ n3_ n4_ n5_ n6_ n7_ n8_ n9_ n10_ n11_ n12_ n13_ n14_ n15_ n16_ n17_; clear hb hbox hg; have hnb59 := NB4033_4001.out; have hnc59 := NB4001_4033.out; have hnb60 := NB4033_4002.out; have hnc60 := NB4002_4033.out; have hnb61 := NB4033_4026.out; have hnc61 := NB4026_4033.out; have hcz62_0 : w58.cell? ⟨gb4033, 0, none⟩ = some (.int .i64 0) := (blk_cell BK4033.out 0).trans rfl; have hcz62_1 : w58.cell? ⟨gb4033, 1, none⟩ = some (.int .i64 0) := (blk_cell BK4033.out 1).trans rfl; have hcz62_2 : w58.cell? ⟨gb4033, 2, none⟩ = some (.int .i64 0) := (blk_cell BK4033.out 2).trans rfl; have hcz62_3 : w58.cell? ⟨gb4033, 3, none⟩ = some (.slice none 0 0) := (blk_cell BK4033.out 3).trans rfl; have hfz62_0 := blk_frozen BK4033.out 0; have hfz62_1 := blk_frozen BK4033.out 1; have hfz62_2 := blk_frozen BK4033.out 2; have hfz62_3 := blk_frozen BK4033.out 3; obtain ⟨Ao63, co63, eo63⟩ := Kd.R_slice HO4032.out; subst eo63; have hcz64_0 : w58.cell? ⟨gb4026, 0, none⟩ = some (.int .i64 t4020) := (blk_cell BK4026.out 0).trans rfl; have hcz64_1 : w58.cell? ⟨gb4026, 1, none⟩ = some (.int .i64 t4021) := (blk_cell BK4026.out 1).trans rfl; have hcz64_2 : w58.cell? ⟨gb4026, 2, none⟩ = some (.int .i64 t4022) := (blk_cell BK4026.out 2).trans rfl; have hcz64_3 : w58.cell? ⟨gb4026, 3, none⟩ = some (.slice Ao55 t4023.length co55) := (blk_cell BK4026.out 3).trans rfl; have hfz64_0 := blk_frozen BK4026.out 0; have hfz64_1 := blk_frozen BK4026.out 1; have hfz64_2 := blk_frozen BK4026.out 2; have hfz64_3 := blk_frozen BK4026.out 3) | ((with_reducible refine gate_callee (f := 14) rfl ?_); refine goesL_ (some 35) rfl rfl Try.func14 (by kernel_rfl) rfl #[.agg #[.int .i64 t4020, .int .i64 t4021, .int .i64 t4022, .slice Ao55 t4023.length co55], .agg #[.int .i64 t4027, .int .i64 t4028, .int .i64 t4029, .slice Ao63 t4030.length co63]] rfl (by (try simp only [List.map_toArray, List.map_cons, List.map_nil]); first | done | rfl | (simp only [List.length_drop, List.length_take]; rfl)) ?_; (with_reducible refine (impl_ChangedRegion.calls t4020 t4021 t4022 _ _ t4023 t4027 t4028 t4029 _ _ t4030 t4034 _ ?side1 ?side2 ?side3 ?side4 A24.out).mono ?_); (case side1 => refine (Kd.R_reads' (e := 3) (base := w.heap.size) (ok := fun k_ => (((True ∧ some k_ ≠ (.slice Ao46 t4008.length co46 : Value).ownBlock) ∧ some k_ ≠ (.slice Ao47 t4014.length co47 : Value).ownBlock) ∧ some k_ ≠ (.slice Ao63 t4030.length co63 : Value).ownBlock)) (n := t4023.length) (c := co55) ?_).2.2; exact (by (with_reducible repeat (first | apply Kd.R_alloc | apply Kd.R_drewN | apply Kd.R_drew)); exact (Kd.R_mono (Kd.R_far (p := ⟨gb4033, 3, none⟩) (Kd.R_far (p := ⟨gb4033, 2, none⟩) (Kd.R_far (p := ⟨gb4033, 1, none⟩) (Kd.R_far (p := ⟨gb4033, 0, none⟩) (Kd.R_types HO4025.out BK4033.out (by decide)) (fun _ hk => hk.2) (.int .i64 t4027)) (fun _ hk => hk.2) (.int .i64 t4028)) (fun _ hk => hk.2) (.int .i64 t4029)) (fun _ hk => hk.2) (.slice Ao63 t4030.length co63)) (fun _ h_ => h_.1)))); (case side2 => exact (Kd.R_reads' HO4025.out).2.1); (case side3 => refine (Kd.R_reads' (e := 3) (base := w.heap.size) (ok := fun k_ => (((True ∧ some k_ ≠ (.slice Ao46 t4008.length co46 : Value).ownBlock) ∧ some k_ ≠ (.slice Ao47 t4014.length co47 : Value).ownBlock) ∧ some k_ ≠ (.slice Ao55 t4023.length co55 : Value).ownBlock)) (n := t4030.length) (c := co63) ?_).2.2; exact (by (with_reducible repeat (first | apply Kd.R_alloc | apply Kd.R_drewN | apply Kd.R_drew)); exact (Kd.R_mono (Kd.R_far (p := ⟨gb4033, 3, none⟩) (Kd.R_far (p := ⟨gb4033, 2, none⟩) (Kd.R_far (p := ⟨gb4033, 1, none⟩) (Kd.R_far (p := ⟨gb4033, 0, none⟩) (Kd.R_types HO4032.out BK4033.out (by decide)) (fun _ hk => hk.2) (.int .i64 t4027)) (fun _ hk => hk.2) (.int .i64 t4028)) (fun _ hk => hk.2) (.int .i64 t4029)) (fun _ hk => hk.2) (.slice Ao63 t4030.length co63)) (fun _ h_ => h_.1)))); (case side4 => exact (Kd.R_reads' HO4032.out).2.1); rintro e w65 ⟨v4035, rfl, ho0, hb⟩; refine ⟨_, rfl, ?_⟩; have n0_ := Aside0.mk (Kd.R_below (by (with_reducible repeat (first | apply Kd.R_alloc | apply Kd.R_drewN | apply Kd.R_drew)); exact (Kd.R_mono (Kd.R_far (p := ⟨gb4033, 3, none⟩) (Kd.R_far (p := ⟨gb4033, 2, none⟩) (Kd.R_far (p := ⟨gb4033, 1, none⟩) (Kd.R_far (p := ⟨gb4033, 0, none⟩) (Kd.R_types HO4010.out BK4033.out (by decide)) (fun _ hk => hk.2) (.int .i64 t4027)) (fun _ hk => hk.2) (.int .i64 t4028)) (fun _ hk => hk.2) (.int .i64 t4029)) (fun _ hk => hk.2) (.slice Ao63 t4030.length co63)) (fun _ h_ => h_.1))) hb); have n1_ := Aside0.mk (Kd.R_below (by (with_reducible repeat (first | apply Kd.R_alloc | apply Kd.R_drewN | apply Kd.R_drew)); exact (Kd.R_mono (Kd.R_far (p := ⟨gb4033, 3, none⟩) (Kd.R_far (p := ⟨gb4033, 2, none⟩) (Kd.R_far (p := ⟨gb4033, 1, none⟩) (Kd.R_far (p := ⟨gb4033, 0, none⟩) (Kd.R_types HO4016.out BK4033.out (by decide)) (fun _ hk => hk.2) (.int .i64 t4027)) (fun _ hk => hk.2) (.int .i64 t4028)) (fun _ hk => hk.2) (.int .i64 t4029)) (fun _ hk => hk.2) (.slice Ao63 t4030.length co63)) (fun _ h_ => h_.1))) hb); have n2_ := Aside0.mk (Kd.R_elder' (by (with_reducible repeat (first | apply Kd.R_alloc | apply Kd.R_drewN | apply Kd.R_drew)); exact (Kd.R_mono (Kd.R_far (p := ⟨gb4033, 3, none⟩) (Kd.R_far (p := ⟨gb4033, 2, none⟩) (Kd.R_far (p := ⟨gb4033, 1, none⟩) (Kd.R_far (p := ⟨gb4033, 0, none⟩) (Kd.R_types HO4019.out BK4033.out (by decide)) (fun _ hk => hk.2) (.int .i64 t4027)) (fun _ hk => hk.2) (.int .i64 t4028)) (fun _ hk => hk.2) (.int .i64 t4029)) (fun _ hk => hk.2) (.slice Ao63 t4030.length co63)) (fun _ h_ => h_.1))) (Kd.R_base ho0) hb); have n3_ := Aside0.mk (Kd.R_below (by (with_reducible repeat (first | apply Kd.R_alloc | apply Kd.R_drewN | apply Kd.R_drew)); exact (Kd.R_mono (Kd.R_far (p := ⟨gb4033, 3, none⟩) (Kd.R_far (p := ⟨gb4033, 2, none⟩) (Kd.R_far (p := ⟨gb4033, 1, none⟩) (Kd.R_far (p := ⟨gb4033, 0, none⟩) (Kd.R_types HO4025.out BK4033.out (by decide)) (fun _ hk => hk.2) (.int .i64 t4027)) (fun _ hk => hk.2) (.int .i64 t4028)) (fun _ hk => hk.2) (.int .i64 t4029)) (fun _ hk => hk.2) (.slice Ao63 t4030.length co63)) (fun _ h_ => h_.1))) hb); have n4_ := Aside0.mk (Kd.R_below (by (with_reducible repeat (first | apply Kd.R_alloc | apply Kd.R_drewN | apply Kd.R_drew)); exact (Kd.R_mono (Kd.R_far (p := ⟨gb4033, 3, none⟩) (Kd.R_far (p := ⟨gb4033, 2, none⟩) (Kd.R_far (p := ⟨gb4033, 1, none⟩) (Kd.R_far (p := ⟨gb4033, 0, none⟩) (Kd.R_types HO4032.out BK4033.out (by decide)) (fun _ hk => hk.2) (.int .i64 t4027)) (fun _ hk => hk.2) (.int .i64 t4028)) (fun _ hk => hk.2) (.int .i64 t4029)) (fun _ hk => hk.2) (.slice Ao63 t4030.length co63)) (fun _ h_ => h_.1))) hb); have n5_ := Aside0.mk (Kd.R_lower (Kd.R_new' ho0 (Kd.R_lt (by (with_reducible repeat (first | apply Kd.R_alloc | apply Kd.R_drewN | apply Kd.R_drew)); exact (Kd.R_mono (Kd.R_far (p := ⟨gb4033, 3, none⟩) (Kd.R_far (p := ⟨gb4033, 2, none⟩) (Kd.R_far (p := ⟨gb4033, 1, none⟩) (Kd.R_far (p := ⟨gb4033, 0, none⟩) (Kd.R_types HO4019.out BK4033.out (by decide)) (fun _ hk => hk.2) (.int .i64 t4027)) (fun _ hk => hk.2) (.int .i64 t4028)) (fun _ hk => hk.2) (.int .i64 t4029)) (fun _ hk => hk.2) (.slice Ao63 t4030.length co63)) (fun _ h_ => h_.1))))) (below_size (by repeat (first | (with_reducible first | exact HB.out | apply below_alloc | apply pw_below_drewN | apply below_drew1 | refine below_set ?_ GE4001.out | refine below_set ?_ GE4002.out | refine below_set ?_ GE4026.out | refine below_set ?_ GE4033.out) | exact HB.out)))); have n6_ := Aside0.mk (blk_below (g := gb4001) (o := .cells #[.int .i64 a0_0, .int .i64 a0_1, .int .i64 a0_2, .slice A0_3 l0_3.length c0_3] 24 (0, 0)) (by (with_reducible repeat (first | refine blk_drewN ?_ _ | refine blk_drew ?_ | refine blk_alloc ?_ _)); refine blk_far ?_ NB4001_4033.out _; (with_reducible repeat (first | refine blk_drewN ?_ _ | refine blk_drew ?_ | refine blk_alloc ?_ _)); refine blk_far ?_ NB4001_4033.out _; (with_reducible repeat (first | refine blk_drewN ?_ _ | refine blk_drew ?_ | refine blk_alloc ?_ _)); refine blk_far ?_ NB4001_4033.out _; (with_reducible repeat (first | refine blk_drewN ?_ _ | refine blk_drew ?_ | refine blk_alloc ?_ _)); refine blk_far ?_ NB4001_4033.out _; (with_reducible repeat (first | refine blk_drewN ?_ _ | refine blk_drew ?_ | refine blk_alloc ?_ _)); exact BK4001.out) hb); have n7_ := Aside0.mk (blk_below (g := gb4002) (o := .cells #[.int .i64 a1_0, .int .i64 a1_1, .int .i64 a1_2, .slice A1_3 l1_3.length c1_3] 24 (0, 0)) (by (with_reducible repeat (first | refine blk_drewN ?_ _ | refine blk_drew ?_ | refine blk_alloc ?_ _)); refine blk_far ?_ NB4002_4033.out _; (with_reducible repeat (first | refine blk_drewN ?_ _ | refine blk_drew ?_ | refine blk_alloc ?_ _)); refine blk_far ?_ NB4002_4033.out _; (with_reducible repeat (first | refine blk_drewN ?_ _ | refine blk_drew ?_ | refine blk_alloc ?_ _)); refine blk_far ?_ NB4002_4033.out _; (with_reducible repeat (first | refine blk_drewN ?_ _ | refine blk_drew ?_ | refine blk_alloc ?_ _)); refine blk_far ?_ NB4002_4033.out _; (with_reducible repeat (first | refine blk_drewN ?_ _ | refine blk_drew ?_ | refine blk_alloc ?_ _)); exact BK4002.out) hb); have n8_ := Aside0.mk (blk_below (g := gb4026) (o := .cells #[.int .i64 t4020, .int .i64 t4021, .int .i64 t4022, .slice Ao55 t4023.length co55] 28 (0, 0)) (by (with_reducible repeat (first | refine blk_drewN ?_ _ | refine blk_drew ?_ | refine blk_alloc ?_ _)); refine blk_far ?_ NB4026_4033.out _; (with_reducible repeat (first | refine blk_drewN ?_ _ | refine blk_drew ?_ | refine blk_alloc ?_ _)); refine blk_far ?_ NB4026_4033.out _; (with_reducible repeat (first | refine blk_drewN ?_ _ | refine blk_drew ?_ | refine blk_alloc ?_ _)); refine blk_far ?_ NB4026_4033.out _; (with_reducible repeat (first | refine blk_drewN ?_ _ | refine blk_drew ?_ | refine blk_alloc ?_ _)); refine blk_far ?_ NB4026_4033.out _; (with_reducible repeat (first | refine blk_drewN ?_ _ | refine blk_drew ?_ | refine blk_alloc ?_ _)); exact BK4026.out) hb); have n9_ := Aside0.mk (blk_below (g := gb4033) (o := .cells #[.int .i64 t4027, .int .i64 t4028, .int .i64 t4029, .slice Ao63 t4030.length co63] 28 (0, 0)) (by (with_reducible repeat (first | refine blk_drewN ?_ _ | refine blk_drew ?_ | refine blk_alloc ?_ _)); refine blk_put (cs := #[.int .i64 t4027, .int .i64 t4028, .int .i64 t4029, .slice none 0 0]) ?_ 3 _ rfl; (with_reducible repeat (first | refine blk_drewN ?_ _ | refine blk_drew ?_ | refine blk_alloc ?_ _)); refine blk_put (cs := #[.int .i64 t4027, .int .i64 t4028, .int .i64 0, .slice none 0 0]) ?_ 2 _ rfl; (with_reducible repeat (first | refine blk_drewN ?_ _ | refine blk_drew ?_ | refine blk_alloc ?_ _)); refine blk_put (cs := #[.int .i64 t4027, .int .i64 0, .int .i64 0, .slice none 0 0]) ?_ 1 _ rfl; (with_reducible repeat (first | refine blk_drewN ?_ _ | refine blk_drew ?_ | refine blk_alloc ?_ _)); refine blk_put (cs := #[.int .i64 0, .int .i64 0, .int .i64 0, .slice none 0 0]) ?_ 0 _ rfl; (with_reducible repeat (first | refine blk_drewN ?_ _ | refine blk_drew ?_ | refine blk_alloc ?_ _)); exact BK4033.out) hb); have n10_ := Aside0.mk (below_step (by repeat (first | (with_reducible first | exact HB.out | apply below_alloc | apply pw_below_drewN | apply below_drew1 | refine below_set ?_ GE4001.out | refine below_set ?_ GE4002.out | refine below_set ?_ GE4026.out | refine below_set ?_ GE4033.out) | exact HB.out)) hb); clear HO4010; clear HO4016; clear HO4019; clear HO4025; clear HO4032; clear BK4001; clear BK4002; clear BK4026; clear BK4033; clear HB; have HO4010 := n0_; have HO4016 := n1_; have HO4019 := n2_; have HO4025 := n3_; have HO4032 := n4_; have HO4036 := n5_; have BK4001 := n6_; have BK4002 := n7_; have BK4026 := n8_; have BK4033 := n9_; have HB := n10_; clear n0_ n1_ n2_ n3_ n4_ n5_ n6_ n7_ n8_ n9_ n10_; (try clear hb); (try clear hb2); (try clear hk); (try clear hi); (try clear ho0); obtain ⟨Ao66, co66, eo66⟩ := Kd.R_slice HO4036.out; subst eo66; obtain ⟨Ao67, co67, eo67⟩ := Kd.R_slice HO4019.out; subst eo67) | ((with_reducible refine gate_callee (f := 15) rfl ?_); refine goesL_ (some 38) rfl rfl Try.func15 (by kernel_rfl) rfl #[.slice Ao66 t4034.length co66, .slice Ao67 t4017.length co67] rfl (by (try simp only [List.map_toArray, List.map_cons, List.map_nil]); first | done | rfl | (simp only [List.length_drop, List.length_take]; rfl)) ?_; (with_reducible refine (laws_eqRunS.calls k _ _ t4034 _ _ t4017 true _ ?side1 ?side2 ?side3 ?side4 A25.out).mono ?_); (case side1 => repeat (first | exact (Kd.R_reads' HO4036.out).2.2 | (with_reducible refine Kd.C_alloc ?_ _) | (with_reducible refine Kd.C_drewN ?_ _) | (with_reducible refine Kd.C_drew ?_))); (case side2 => exact (Kd.R_reads' HO4036.out).2.1); (case side3 => repeat (first | exact (Kd.R_reads' HO4019.out).2.2 | (with_reducible refine Kd.C_alloc ?_ _) | (with_reducible refine Kd.C_drewN ?_ _) | (with_reducible refine Kd.C_drew ?_))); (case side4 => exact (Kd.R_reads' HO4019.out).2.1); rintro e w68 ⟨rfl, hb⟩; refine ⟨_, rfl, ?_⟩; have n0_ := Aside0.mk (Kd.R_below (by (with_reducible repeat (first | apply Kd.R_alloc | apply Kd.R_drewN | apply Kd.R_drew)); exact HO4010.out) hb); have n1_ := Aside0.mk (Kd.R_below (by (with_reducible repeat (first | apply Kd.R_alloc | apply Kd.R_drewN | apply Kd.R_drew)); exact HO4016.out) hb); have n2_ := Aside0.mk (Kd.R_below (by (with_reducible repeat (first | apply Kd.R_alloc | apply Kd.R_drewN | apply Kd.R_drew)); exact HO4019.out) hb); have n3_ := Aside0.mk (Kd.R_below (by (with_reducible repeat (first | apply Kd.R_alloc | apply Kd.R_drewN | apply Kd.R_drew)); exact HO4025.out) hb); have n4_ := Aside0.mk (Kd.R_below (by (with_reducible repeat (first | apply Kd.R_alloc | apply Kd.R_drewN | apply Kd.R_drew)); exact HO4032.out) hb); have n5_ := Aside0.mk (Kd.R_below (by (with_reducible repeat (first | apply Kd.R_alloc | apply Kd.R_drewN | apply Kd.R_drew)); exact HO4036.out) hb); have n6_ := Aside0.mk (blk_below (g := gb4001) (o := .cells #[.int .i64 a0_0, .int .i64 a0_1, .int .i64 a0_2, .slice A0_3 l0_3.length c0_3] 24 (0, 0)) (by (with_reducible repeat (first | refine blk_drewN ?_ _ | refine blk_drew ?_ | refine blk_alloc ?_ _)); exact BK4001.out) hb); have n7_ := Aside0.mk (blk_below (g := gb4002) (o := .cells #[.int .i64 a1_0, .int .i64 a1_1, .int .i64 a1_2, .slice A1_3 l1_3.length c1_3] 24 (0, 0)) (by (with_reducible repeat (first | refine blk_drewN ?_ _ | refine blk_drew ?_ | refine blk_alloc ?_ _)); exact BK4002.out) hb); have n8_ := Aside0.mk (blk_below (g := gb4026) (o := .cells #[.int .i64 t4020, .int .i64 t4021, .int .i64 t4022, .slice Ao55 t4023.length co55] 28 (0, 0)) (by (with_reducible repeat (first | refine blk_drewN ?_ _ | refine blk_drew ?_ | refine blk_alloc ?_ _)); exact BK4026.out) hb); have n9_ := Aside0.mk (blk_below (g := gb4033) (o := .cells #[.int .i64 t4027, .int .i64 t4028, .int .i64 t4029, .slice Ao63 t4030.length co63] 28 (0, 0)) (by (with_reducible repeat (first | refine blk_drewN ?_ _ | refine blk_drew ?_ | refine blk_alloc ?_ _)); exact BK4033.out) hb); have n10_ := Aside0.mk (below_step (by repeat (first | (with_reducible first | exact HB.out | apply below_alloc | apply pw_below_drewN | apply below_drew1 | refine below_set ?_ GE4001.out | refine below_set ?_ GE4002.out | refine below_set ?_ GE4026.out | refine below_set ?_ GE4033.out) | exact HB.out)) hb); clear HO4010; clear HO4016; clear HO4019; clear HO4025; clear HO4032; clear HO4036; clear BK4001; clear BK4002; clear BK4026; clear BK4033; clear HB; have HO4010 := n0_; have HO4016 := n1_; have HO4019 := n2_; have HO4025 := n3_; have HO4032 := n4_; have HO4036 := n5_; have BK4001 := n6_; have BK4002 := n7_; have BK4026 := n8_; have BK4033 := n9_; have HB := n10_; clear n0_ n1_ n2_ n3_ n4_ n5_ n6_ n7_ n8_ n9_ n10_; (try clear hb); (try clear hb2); (try clear hk); (try clear hi)))
            have n0_ := Aside0.mk (Kd.R_drew HO4010.out)
            have n1_ := Aside0.mk (Kd.R_drew HO4016.out)
            have n2_ := Aside0.mk (Kd.R_drew HO4019.out)
            have n3_ := Aside0.mk (Kd.R_drew HO4025.out)
            have n4_ := Aside0.mk (Kd.R_drew HO4032.out)
            have n5_ := Aside0.mk (Kd.R_drew HO4036.out)
            have n6_ := Aside0.mk (blk_drew BK4001.out)
            have n7_ := Aside0.mk (blk_drew BK4002.out)
            have n8_ := Aside0.mk (blk_drew BK4026.out)
            have n9_ := Aside0.mk (blk_drew BK4033.out)
            have n10_ := Aside0.mk (below_drew1 HB.out)
            clear HO4010
            clear HO4016
            clear HO4019
            clear HO4025
            clear HO4032
            clear HO4036
            clear BK4001
            clear BK4002
            clear BK4026
            clear BK4033
            clear HB
            have HO4010 := n0_
            have HO4016 := n1_
            have HO4019 := n2_
            have HO4025 := n3_
            have HO4032 := n4_
            have HO4036 := n5_
            have BK4001 := n6_
            have BK4002 := n7_
            have BK4026 := n8_
            have BK4033 := n9_
            have HB := n10_
            clear n0_ n1_ n2_ n3_ n4_ n5_ n6_ n7_ n8_ n9_ n10_
            refine start_ (n := 5) (S := fun w' => w'.cell? ⟨gb4026, 0, none⟩ = some (.int .i64 t4020) ∧ w'.cell? ⟨gb4026, 1, none⟩ = some (.int .i64 t4021) ∧ w'.cell? ⟨gb4026, 2, none⟩ = some (.int .i64 t4022) ∧ w'.cell? ⟨gb4026, 3, none⟩ = some (.slice Ao55 t4023.length co55) ∧ w'.cell? ⟨gb4001, 0, none⟩ = some (.int .i64 a0_0) ∧ w'.cell? ⟨gb4001, 1, none⟩ = some (.int .i64 a0_1) ∧ w'.cell? ⟨gb4001, 2, none⟩ = some (.int .i64 a0_2) ∧ w'.cell? ⟨gb4001, 3, none⟩ = some (.slice A0_3 l0_3.length c0_3)) (ds := []) #[false, false, false, false, false] (by kernel_rfl) rfl rfl ⟨(blk_cell BK4026.out 0).trans rfl, (blk_cell BK4026.out 1).trans rfl, (blk_cell BK4026.out 2).trans rfl, (blk_cell BK4026.out 3).trans rfl, (blk_cell BK4001.out 0).trans rfl, (blk_cell BK4001.out 1).trans rfl, (blk_cell BK4001.out 2).trans rfl, (blk_cell BK4001.out 3).trans rfl⟩ (fun hHeld => ?_)
            generalize w68.drew = w69 at HO4010 HO4016 HO4019 HO4025 HO4032 HO4036 BK4001 BK4002 BK4026 BK4033 HB hHeld ⊢
            refine take_ (i := 0) (N := some 40) (v := ?_) (a' := ?_) #[true, false, false, false, false] rfl rfl (by kernel_rfl) (fun _ _ _ h => h) (Or.inl ⟨by rfl, ?_⟩) hHeld ?_ ?_
            rotate_left
            · rintro w' ⟨s0, s1, s2, s3, s4, s5, s6, s7⟩
              go_simp
              with_reducible rfl
            rotate_left
            · simp only [Act.put, List.setIfInBounds_toArray, List.set_cons_zero, List.set_cons_succ, i64_w, i32_w]
              rfl
            refine take_ (i := 1) (N := some 41) (v := ?_) (a' := ?_) #[true, true, false, false, false] rfl rfl (by kernel_rfl) (fun _ _ _ h => h) (Or.inl ⟨by rfl, ?_⟩) hHeld ?_ ?_
            rotate_left
            · rintro w' ⟨s0, s1, s2, s3, s4, s5, s6, s7⟩
              go_simp
              with_reducible rfl
            rotate_left
            · simp only [Act.put, List.setIfInBounds_toArray, List.set_cons_zero, List.set_cons_succ, i64_w, i32_w]
              rfl
            refine one_ (i := 2) (N := some 42) #[true, true, true, false, false] rfl rfl (by kernel_rfl) (by decide) (fun K hK => ?_)
            refine goes_ Try.func13 (by kernel_rfl) rfl #[.agg #[.int .i64 a0_0, .int .i64 a0_1, .int .i64 a0_2, .slice A0_3 l0_3.length c0_3]] (by rfl) rfl rfl (by (try simp only [List.map_toArray, List.map_cons, List.map_nil]); first | done | rfl | (simp only [List.length_drop, List.length_take]; rfl)) ?_
            with_reducible refine (laws_toImage.calls k a0_0 a0_1 a0_2 _ _ l0_3 t4038 t4039 t4040 t4041 _ ?side1 ?side2 A27.out).mono ?_
            (case side1 => repeat (first | exact (Kd.C_below HR0_3.out HB.out) | (with_reducible refine Kd.C_alloc ?_ _) | (with_reducible refine Kd.C_drewN ?_ _) | (with_reducible refine Kd.C_drew ?_)))
            (case side2 => exact HC0_3.out)
            rintro e w70 ⟨v4042, rfl, ho0, hb⟩
            refine ⟨_, rfl, ?_⟩
            have n0_ := Aside0.mk (Kd.R_elder' (by (with_reducible repeat (first | apply Kd.R_alloc | apply Kd.R_drewN | apply Kd.R_drew)); exact HO4010.out) (Kd.R_base ho0) hb)
            have n1_ := Aside0.mk (Kd.R_elder' (by (with_reducible repeat (first | apply Kd.R_alloc | apply Kd.R_drewN | apply Kd.R_drew)); exact HO4016.out) (Kd.R_base ho0) hb)
            have n2_ := Aside0.mk (Kd.R_below (by (with_reducible repeat (first | apply Kd.R_alloc | apply Kd.R_drewN | apply Kd.R_drew)); exact HO4019.out) hb)
            have n3_ := Aside0.mk (Kd.R_elder' (by (with_reducible repeat (first | apply Kd.R_alloc | apply Kd.R_drewN | apply Kd.R_drew)); exact HO4025.out) (Kd.R_base ho0) hb)
            have n4_ := Aside0.mk (Kd.R_elder' (by (with_reducible repeat (first | apply Kd.R_alloc | apply Kd.R_drewN | apply Kd.R_drew)); exact HO4032.out) (Kd.R_base ho0) hb)
            have n5_ := Aside0.mk (Kd.R_below (by (with_reducible repeat (first | apply Kd.R_alloc | apply Kd.R_drewN | apply Kd.R_drew)); exact HO4036.out) hb)
            have n6_ := Aside0.mk (Kd.R_lower (Kd.R_new' (Kd.R_new' (Kd.R_new' (Kd.R_new' ho0 (Kd.R_lt (by (with_reducible repeat (first | apply Kd.R_alloc | apply Kd.R_drewN | apply Kd.R_drew)); exact HO4010.out))) (Kd.R_lt (by (with_reducible repeat (first | apply Kd.R_alloc | apply Kd.R_drewN | apply Kd.R_drew)); exact HO4016.out))) (Kd.R_lt (by (with_reducible repeat (first | apply Kd.R_alloc | apply Kd.R_drewN | apply Kd.R_drew)); exact HO4025.out))) (Kd.R_lt (by (with_reducible repeat (first | apply Kd.R_alloc | apply Kd.R_drewN | apply Kd.R_drew)); exact HO4032.out))) (below_size (by repeat (first | (with_reducible first | exact HB.out | apply below_alloc | apply pw_below_drewN | apply below_drew1 | refine below_set ?_ GE4001.out | refine below_set ?_ GE4002.out | refine below_set ?_ GE4026.out | refine below_set ?_ GE4033.out) | exact HB.out))))
            have n7_ := Aside0.mk (blk_below (g := gb4001) (o := .cells #[.int .i64 a0_0, .int .i64 a0_1, .int .i64 a0_2, .slice A0_3 l0_3.length c0_3] 24 (0, 0)) (by (with_reducible repeat (first | refine blk_drewN ?_ _ | refine blk_drew ?_ | refine blk_alloc ?_ _)); exact BK4001.out) hb)
            have n8_ := Aside0.mk (blk_below (g := gb4002) (o := .cells #[.int .i64 a1_0, .int .i64 a1_1, .int .i64 a1_2, .slice A1_3 l1_3.length c1_3] 24 (0, 0)) (by (with_reducible repeat (first | refine blk_drewN ?_ _ | refine blk_drew ?_ | refine blk_alloc ?_ _)); exact BK4002.out) hb)
            have n9_ := Aside0.mk (blk_below (g := gb4026) (o := .cells #[.int .i64 t4020, .int .i64 t4021, .int .i64 t4022, .slice Ao55 t4023.length co55] 28 (0, 0)) (by (with_reducible repeat (first | refine blk_drewN ?_ _ | refine blk_drew ?_ | refine blk_alloc ?_ _)); exact BK4026.out) hb)
            have n10_ := Aside0.mk (blk_below (g := gb4033) (o := .cells #[.int .i64 t4027, .int .i64 t4028, .int .i64 t4029, .slice Ao63 t4030.length co63] 28 (0, 0)) (by (with_reducible repeat (first | refine blk_drewN ?_ _ | refine blk_drew ?_ | refine blk_alloc ?_ _)); exact BK4033.out) hb)
            have n11_ := Aside0.mk (below_step (by repeat (first | (with_reducible first | exact HB.out | apply below_alloc | apply pw_below_drewN | apply below_drew1 | refine below_set ?_ GE4001.out | refine below_set ?_ GE4002.out | refine below_set ?_ GE4026.out | refine below_set ?_ GE4033.out) | exact HB.out)) hb)
            clear HO4010
            clear HO4016
            clear HO4019
            clear HO4025
            clear HO4032
            clear HO4036
            clear BK4001
            clear BK4002
            clear BK4026
            clear BK4033
            clear HB
            have HO4010 := n0_
            have HO4016 := n1_
            have HO4019 := n2_
            have HO4025 := n3_
            have HO4032 := n4_
            have HO4036 := n5_
            have HO4043 := n6_
            have BK4001 := n7_
            have BK4002 := n8_
            have BK4026 := n9_
            have BK4033 := n10_
            have HB := n11_
            clear n0_ n1_ n2_ n3_ n4_ n5_ n6_ n7_ n8_ n9_ n10_ n11_
            (try clear hb)
            (try clear hb2)
            (try clear hk)
            (try clear hi)
            (try clear ho0)
            obtain ⟨Ao71, co71, eo71⟩ := Kd.R_slice HO4043.out
            (first | subst eo71 | (injection eo71 with f1_ f2_ f3_; have f4_ := f1_.symm; have f5_ := f3_.symm; clear f1_ f2_ f3_; subst f4_; subst f5_))
            refine hK.out _ _ ⟨(blk_cell BK4026.out 0).trans rfl, (blk_cell BK4026.out 1).trans rfl, (blk_cell BK4026.out 2).trans rfl, (blk_cell BK4026.out 3).trans rfl, (blk_cell BK4001.out 0).trans rfl, (blk_cell BK4001.out 1).trans rfl, (blk_cell BK4001.out 2).trans rfl, (blk_cell BK4001.out 3).trans rfl⟩ (fun hHeld => ?_)
            clear hK K
            refine norm_ (a' := ?_) ?_ ?_
            rotate_left
            · show Act.put _ (some 42) _ = _
              simp only [Act.put, List.setIfInBounds_toArray, List.set_cons_zero, List.set_cons_succ, i64_w, i32_w]
              rfl
            refine one_ (i := 3) (N := some 43) #[true, true, true, true, false] rfl rfl (by kernel_rfl) (by decide) (fun K hK => ?_)
            refine goes_ Try.func16 (by kernel_rfl) rfl #[.agg #[.int .i64 t4020, .int .i64 t4021, .int .i64 t4022, .slice Ao55 t4023.length co55], .agg #[.int .i64 t4038, .int .i64 t4039, .int .i64 t4040, .slice Ao71 t4041.length co71]] (by rfl) rfl rfl (by (try simp only [List.map_toArray, List.map_cons, List.map_nil]); first | done | rfl | (simp only [List.length_drop, List.length_take]; rfl)) ?_
            with_reducible refine (laws_eqImage.calls k t4020 t4021 t4022 _ _ t4023 t4038 t4039 t4040 _ _ t4041 true _ ?side1 ?side2 ?side3 ?side4 A28.out).mono ?_
            (case side1 => repeat (first | exact (Kd.R_reads' HO4025.out).2.2 | (with_reducible refine Kd.C_alloc ?_ _) | (with_reducible refine Kd.C_drewN ?_ _) | (with_reducible refine Kd.C_drew ?_)))
            (case side2 => exact (Kd.R_reads' HO4025.out).2.1)
            (case side3 => repeat (first | exact (Kd.R_reads' HO4043.out).2.2 | (with_reducible refine Kd.C_alloc ?_ _) | (with_reducible refine Kd.C_drewN ?_ _) | (with_reducible refine Kd.C_drew ?_)))
            (case side4 => exact (Kd.R_reads' HO4043.out).2.1)
            rintro e w72 ⟨rfl, hb⟩
            refine ⟨_, rfl, ?_⟩
            have n0_ := Aside0.mk (Kd.R_below (by (with_reducible repeat (first | apply Kd.R_alloc | apply Kd.R_drewN | apply Kd.R_drew)); exact HO4010.out) hb)
            have n1_ := Aside0.mk (Kd.R_below (by (with_reducible repeat (first | apply Kd.R_alloc | apply Kd.R_drewN | apply Kd.R_drew)); exact HO4016.out) hb)
            have n2_ := Aside0.mk (Kd.R_below (by (with_reducible repeat (first | apply Kd.R_alloc | apply Kd.R_drewN | apply Kd.R_drew)); exact HO4019.out) hb)
            have n3_ := Aside0.mk (Kd.R_below (by (with_reducible repeat (first | apply Kd.R_alloc | apply Kd.R_drewN | apply Kd.R_drew)); exact HO4025.out) hb)
            have n4_ := Aside0.mk (Kd.R_below (by (with_reducible repeat (first | apply Kd.R_alloc | apply Kd.R_drewN | apply Kd.R_drew)); exact HO4032.out) hb)
            have n5_ := Aside0.mk (Kd.R_below (by (with_reducible repeat (first | apply Kd.R_alloc | apply Kd.R_drewN | apply Kd.R_drew)); exact HO4036.out) hb)
            have n6_ := Aside0.mk (Kd.R_below (by (with_reducible repeat (first | apply Kd.R_alloc | apply Kd.R_drewN | apply Kd.R_drew)); exact HO4043.out) hb)
            have n7_ := Aside0.mk (blk_below (g := gb4001) (o := .cells #[.int .i64 a0_0, .int .i64 a0_1, .int .i64 a0_2, .slice A0_3 l0_3.length c0_3] 24 (0, 0)) (by (with_reducible repeat (first | refine blk_drewN ?_ _ | refine blk_drew ?_ | refine blk_alloc ?_ _)); exact BK4001.out) hb)
            have n8_ := Aside0.mk (blk_below (g := gb4002) (o := .cells #[.int .i64 a1_0, .int .i64 a1_1, .int .i64 a1_2, .slice A1_3 l1_3.length c1_3] 24 (0, 0)) (by (with_reducible repeat (first | refine blk_drewN ?_ _ | refine blk_drew ?_ | refine blk_alloc ?_ _)); exact BK4002.out) hb)
            have n9_ := Aside0.mk (blk_below (g := gb4026) (o := .cells #[.int .i64 t4020, .int .i64 t4021, .int .i64 t4022, .slice Ao55 t4023.length co55] 28 (0, 0)) (by (with_reducible repeat (first | refine blk_drewN ?_ _ | refine blk_drew ?_ | refine blk_alloc ?_ _)); exact BK4026.out) hb)
            have n10_ := Aside0.mk (blk_below (g := gb4033) (o := .cells #[.int .i64 t4027, .int .i64 t4028, .int .i64 t4029, .slice Ao63 t4030.length co63] 28 (0, 0)) (by (with_reducible repeat (first | refine blk_drewN ?_ _ | refine blk_drew ?_ | refine blk_alloc ?_ _)); exact BK4033.out) hb)
            have n11_ := Aside0.mk (below_step (by repeat (first | (with_reducible first | exact HB.out | apply below_alloc | apply pw_below_drewN | apply below_drew1 | refine below_set ?_ GE4001.out | refine below_set ?_ GE4002.out | refine below_set ?_ GE4026.out | refine below_set ?_ GE4033.out) | exact HB.out)) hb)
            clear HO4010
            clear HO4016
            clear HO4019
            clear HO4025
            clear HO4032
            clear HO4036
            clear HO4043
            clear BK4001
            clear BK4002
            clear BK4026
            clear BK4033
            clear HB
            have HO4010 := n0_
            have HO4016 := n1_
            have HO4019 := n2_
            have HO4025 := n3_
            have HO4032 := n4_
            have HO4036 := n5_
            have HO4043 := n6_
            have BK4001 := n7_
            have BK4002 := n8_
            have BK4026 := n9_
            have BK4033 := n10_
            have HB := n11_
            clear n0_ n1_ n2_ n3_ n4_ n5_ n6_ n7_ n8_ n9_ n10_ n11_
            (try clear hb)
            (try clear hb2)
            (try clear hk)
            (try clear hi)
            refine hK.out _ _ ⟨(blk_cell BK4026.out 0).trans rfl, (blk_cell BK4026.out 1).trans rfl, (blk_cell BK4026.out 2).trans rfl, (blk_cell BK4026.out 3).trans rfl, (blk_cell BK4001.out 0).trans rfl, (blk_cell BK4001.out 1).trans rfl, (blk_cell BK4001.out 2).trans rfl, (blk_cell BK4001.out 3).trans rfl⟩ (fun hHeld => ?_)
            clear hK K
            refine norm_ (a' := ?_) ?_ ?_
            rotate_left
            · show Act.put _ (some 43) _ = _
              simp only [Act.put, List.setIfInBounds_toArray, List.set_cons_zero, List.set_cons_succ, i64_w, i32_w]
              rfl
            refine pure_ (i := 4) (N := some 44) (v := ?_) (a' := ?_) #[true, true, true, true, true] rfl rfl (by kernel_rfl) (fun _ _ _ h => h) (Or.inl ⟨by rfl, ?_⟩) ?_ ?_
            rotate_left
            · intro w'
              go_simp
              with_reducible rfl
            rotate_left
            · simp only [Act.put, List.setIfInBounds_toArray, List.set_cons_zero, List.set_cons_succ, i64_w, i32_w]
              rfl
            refine done_ (by kernel_rfl) ?_
            try go_wp2
            have n0_ := Aside0.mk (Kd.R_drew HO4010.out)
            have n1_ := Aside0.mk (Kd.R_drew HO4016.out)
            have n2_ := Aside0.mk (Kd.R_drew HO4019.out)
            have n3_ := Aside0.mk (Kd.R_drew HO4025.out)
            have n4_ := Aside0.mk (Kd.R_drew HO4032.out)
            have n5_ := Aside0.mk (Kd.R_drew HO4036.out)
            have n6_ := Aside0.mk (Kd.R_drew HO4043.out)
            have n7_ := Aside0.mk (blk_drew BK4001.out)
            have n8_ := Aside0.mk (blk_drew BK4002.out)
            have n9_ := Aside0.mk (blk_drew BK4026.out)
            have n10_ := Aside0.mk (blk_drew BK4033.out)
            have n11_ := Aside0.mk (below_drew1 HB.out)
            clear HO4010
            clear HO4016
            clear HO4019
            clear HO4025
            clear HO4032
            clear HO4036
            clear HO4043
            clear BK4001
            clear BK4002
            clear BK4026
            clear BK4033
            clear HB
            have HO4010 := n0_
            have HO4016 := n1_
            have HO4019 := n2_
            have HO4025 := n3_
            have HO4032 := n4_
            have HO4036 := n5_
            have HO4043 := n6_
            have BK4001 := n7_
            have BK4002 := n8_
            have BK4026 := n9_
            have BK4033 := n10_
            have HB := n11_
            clear n0_ n1_ n2_ n3_ n4_ n5_ n6_ n7_ n8_ n9_ n10_ n11_
            refine start_ (n := 5) (S := fun w' => w'.cell? ⟨gb4033, 0, none⟩ = some (.int .i64 t4027) ∧ w'.cell? ⟨gb4033, 1, none⟩ = some (.int .i64 t4028) ∧ w'.cell? ⟨gb4033, 2, none⟩ = some (.int .i64 t4029) ∧ w'.cell? ⟨gb4033, 3, none⟩ = some (.slice Ao63 t4030.length co63) ∧ w'.cell? ⟨gb4002, 0, none⟩ = some (.int .i64 a1_0) ∧ w'.cell? ⟨gb4002, 1, none⟩ = some (.int .i64 a1_1) ∧ w'.cell? ⟨gb4002, 2, none⟩ = some (.int .i64 a1_2) ∧ w'.cell? ⟨gb4002, 3, none⟩ = some (.slice A1_3 l1_3.length c1_3)) (ds := []) #[false, false, false, false, false] (by kernel_rfl) rfl rfl ⟨(blk_cell BK4033.out 0).trans rfl, (blk_cell BK4033.out 1).trans rfl, (blk_cell BK4033.out 2).trans rfl, (blk_cell BK4033.out 3).trans rfl, (blk_cell BK4002.out 0).trans rfl, (blk_cell BK4002.out 1).trans rfl, (blk_cell BK4002.out 2).trans rfl, (blk_cell BK4002.out 3).trans rfl⟩ (fun hHeld => ?_)
            generalize w72.drew = w73 at HO4010 HO4016 HO4019 HO4025 HO4032 HO4036 HO4043 BK4001 BK4002 BK4026 BK4033 HB hHeld ⊢
            refine take_ (i := 0) (N := some 45) (v := ?_) (a' := ?_) #[true, false, false, false, false] rfl rfl (by kernel_rfl) (fun _ _ _ h => h) (Or.inl ⟨by rfl, ?_⟩) hHeld ?_ ?_
            rotate_left
            · rintro w' ⟨s0, s1, s2, s3, s4, s5, s6, s7⟩
              go_simp
              with_reducible rfl
            rotate_left
            · simp only [Act.put, List.setIfInBounds_toArray, List.set_cons_zero, List.set_cons_succ, i64_w, i32_w]
              rfl
            refine take_ (i := 1) (N := some 46) (v := ?_) (a' := ?_) #[true, true, false, false, false] rfl rfl (by kernel_rfl) (fun _ _ _ h => h) (Or.inl ⟨by rfl, ?_⟩) hHeld ?_ ?_
            rotate_left
            · rintro w' ⟨s0, s1, s2, s3, s4, s5, s6, s7⟩
              go_simp
              with_reducible rfl
            rotate_left
            · simp only [Act.put, List.setIfInBounds_toArray, List.set_cons_zero, List.set_cons_succ, i64_w, i32_w]
              rfl
            refine one_ (i := 2) (N := some 47) #[true, true, true, false, false] rfl rfl (by kernel_rfl) (by decide) (fun K hK => ?_)
            refine goes_ Try.func13 (by kernel_rfl) rfl #[.agg #[.int .i64 a1_0, .int .i64 a1_1, .int .i64 a1_2, .slice A1_3 l1_3.length c1_3]] (by rfl) rfl rfl (by (try simp only [List.map_toArray, List.map_cons, List.map_nil]); first | done | rfl | (simp only [List.length_drop, List.length_take]; rfl)) ?_
            with_reducible refine (laws_toImage.calls k a1_0 a1_1 a1_2 _ _ l1_3 t4045 t4046 t4047 t4048 _ ?side1 ?side2 A30.out).mono ?_
            (case side1 => repeat (first | exact (Kd.C_below HR1_3.out HB.out) | (with_reducible refine Kd.C_alloc ?_ _) | (with_reducible refine Kd.C_drewN ?_ _) | (with_reducible refine Kd.C_drew ?_)))
            (case side2 => exact HC1_3.out)
            rintro e w74 ⟨v4049, rfl, ho0, hb⟩
            refine ⟨_, rfl, ?_⟩
            have n0_ := Aside0.mk (Kd.R_elder' (by (with_reducible repeat (first | apply Kd.R_alloc | apply Kd.R_drewN | apply Kd.R_drew)); exact HO4010.out) (Kd.R_base ho0) hb)
            have n1_ := Aside0.mk (Kd.R_elder' (by (with_reducible repeat (first | apply Kd.R_alloc | apply Kd.R_drewN | apply Kd.R_drew)); exact HO4016.out) (Kd.R_base ho0) hb)
            have n2_ := Aside0.mk (Kd.R_below (by (with_reducible repeat (first | apply Kd.R_alloc | apply Kd.R_drewN | apply Kd.R_drew)); exact HO4019.out) hb)
            have n3_ := Aside0.mk (Kd.R_elder' (by (with_reducible repeat (first | apply Kd.R_alloc | apply Kd.R_drewN | apply Kd.R_drew)); exact HO4025.out) (Kd.R_base ho0) hb)
            have n4_ := Aside0.mk (Kd.R_elder' (by (with_reducible repeat (first | apply Kd.R_alloc | apply Kd.R_drewN | apply Kd.R_drew)); exact HO4032.out) (Kd.R_base ho0) hb)
            have n5_ := Aside0.mk (Kd.R_below (by (with_reducible repeat (first | apply Kd.R_alloc | apply Kd.R_drewN | apply Kd.R_drew)); exact HO4036.out) hb)
            have n6_ := Aside0.mk (Kd.R_elder' (by (with_reducible repeat (first | apply Kd.R_alloc | apply Kd.R_drewN | apply Kd.R_drew)); exact HO4043.out) (Kd.R_base ho0) hb)
            have n7_ := Aside0.mk (Kd.R_lower (Kd.R_new' (Kd.R_new' (Kd.R_new' (Kd.R_new' (Kd.R_new' ho0 (Kd.R_lt (by (with_reducible repeat (first | apply Kd.R_alloc | apply Kd.R_drewN | apply Kd.R_drew)); exact HO4010.out))) (Kd.R_lt (by (with_reducible repeat (first | apply Kd.R_alloc | apply Kd.R_drewN | apply Kd.R_drew)); exact HO4016.out))) (Kd.R_lt (by (with_reducible repeat (first | apply Kd.R_alloc | apply Kd.R_drewN | apply Kd.R_drew)); exact HO4025.out))) (Kd.R_lt (by (with_reducible repeat (first | apply Kd.R_alloc | apply Kd.R_drewN | apply Kd.R_drew)); exact HO4032.out))) (Kd.R_lt (by (with_reducible repeat (first | apply Kd.R_alloc | apply Kd.R_drewN | apply Kd.R_drew)); exact HO4043.out))) (below_size (by repeat (first | (with_reducible first | exact HB.out | apply below_alloc | apply pw_below_drewN | apply below_drew1 | refine below_set ?_ GE4001.out | refine below_set ?_ GE4002.out | refine below_set ?_ GE4026.out | refine below_set ?_ GE4033.out) | exact HB.out))))
            have n8_ := Aside0.mk (blk_below (g := gb4001) (o := .cells #[.int .i64 a0_0, .int .i64 a0_1, .int .i64 a0_2, .slice A0_3 l0_3.length c0_3] 24 (0, 0)) (by (with_reducible repeat (first | refine blk_drewN ?_ _ | refine blk_drew ?_ | refine blk_alloc ?_ _)); exact BK4001.out) hb)
            have n9_ := Aside0.mk (blk_below (g := gb4002) (o := .cells #[.int .i64 a1_0, .int .i64 a1_1, .int .i64 a1_2, .slice A1_3 l1_3.length c1_3] 24 (0, 0)) (by (with_reducible repeat (first | refine blk_drewN ?_ _ | refine blk_drew ?_ | refine blk_alloc ?_ _)); exact BK4002.out) hb)
            have n10_ := Aside0.mk (blk_below (g := gb4026) (o := .cells #[.int .i64 t4020, .int .i64 t4021, .int .i64 t4022, .slice Ao55 t4023.length co55] 28 (0, 0)) (by (with_reducible repeat (first | refine blk_drewN ?_ _ | refine blk_drew ?_ | refine blk_alloc ?_ _)); exact BK4026.out) hb)
            have n11_ := Aside0.mk (blk_below (g := gb4033) (o := .cells #[.int .i64 t4027, .int .i64 t4028, .int .i64 t4029, .slice Ao63 t4030.length co63] 28 (0, 0)) (by (with_reducible repeat (first | refine blk_drewN ?_ _ | refine blk_drew ?_ | refine blk_alloc ?_ _)); exact BK4033.out) hb)
            have n12_ := Aside0.mk (below_step (by repeat (first | (with_reducible first | exact HB.out | apply below_alloc | apply pw_below_drewN | apply below_drew1 | refine below_set ?_ GE4001.out | refine below_set ?_ GE4002.out | refine below_set ?_ GE4026.out | refine below_set ?_ GE4033.out) | exact HB.out)) hb)
            clear HO4010
            clear HO4016
            clear HO4019
            clear HO4025
            clear HO4032
            clear HO4036
            clear HO4043
            clear BK4001
            clear BK4002
            clear BK4026
            clear BK4033
            clear HB
            have HO4010 := n0_
            have HO4016 := n1_
            have HO4019 := n2_
            have HO4025 := n3_
            have HO4032 := n4_
            have HO4036 := n5_
            have HO4043 := n6_
            have HO4050 := n7_
            have BK4001 := n8_
            have BK4002 := n9_
            have BK4026 := n10_
            have BK4033 := n11_
            have HB := n12_
            clear n0_ n1_ n2_ n3_ n4_ n5_ n6_ n7_ n8_ n9_ n10_ n11_ n12_
            (try clear hb)
            (try clear hb2)
            (try clear hk)
            (try clear hi)
            (try clear ho0)
            obtain ⟨Ao75, co75, eo75⟩ := Kd.R_slice HO4050.out
            (first | subst eo75 | (injection eo75 with f1_ f2_ f3_; have f4_ := f1_.symm; have f5_ := f3_.symm; clear f1_ f2_ f3_; subst f4_; subst f5_))
            refine hK.out _ _ ⟨(blk_cell BK4033.out 0).trans rfl, (blk_cell BK4033.out 1).trans rfl, (blk_cell BK4033.out 2).trans rfl, (blk_cell BK4033.out 3).trans rfl, (blk_cell BK4002.out 0).trans rfl, (blk_cell BK4002.out 1).trans rfl, (blk_cell BK4002.out 2).trans rfl, (blk_cell BK4002.out 3).trans rfl⟩ (fun hHeld => ?_)
            clear hK K
            refine norm_ (a' := ?_) ?_ ?_
            rotate_left
            · show Act.put _ (some 47) _ = _
              simp only [Act.put, List.setIfInBounds_toArray, List.set_cons_zero, List.set_cons_succ, i64_w, i32_w]
              rfl
            refine one_ (i := 3) (N := some 48) #[true, true, true, true, false] rfl rfl (by kernel_rfl) (by decide) (fun K hK => ?_)
            refine goes_ Try.func16 (by kernel_rfl) rfl #[.agg #[.int .i64 t4027, .int .i64 t4028, .int .i64 t4029, .slice Ao63 t4030.length co63], .agg #[.int .i64 t4045, .int .i64 t4046, .int .i64 t4047, .slice Ao75 t4048.length co75]] (by rfl) rfl rfl (by (try simp only [List.map_toArray, List.map_cons, List.map_nil]); first | done | rfl | (simp only [List.length_drop, List.length_take]; rfl)) ?_
            with_reducible refine (laws_eqImage.calls k t4027 t4028 t4029 _ _ t4030 t4045 t4046 t4047 _ _ t4048 true _ ?side1 ?side2 ?side3 ?side4 A31.out).mono ?_
            (case side1 => repeat (first | exact (Kd.R_reads' HO4032.out).2.2 | (with_reducible refine Kd.C_alloc ?_ _) | (with_reducible refine Kd.C_drewN ?_ _) | (with_reducible refine Kd.C_drew ?_)))
            (case side2 => exact (Kd.R_reads' HO4032.out).2.1)
            (case side3 => repeat (first | exact (Kd.R_reads' HO4050.out).2.2 | (with_reducible refine Kd.C_alloc ?_ _) | (with_reducible refine Kd.C_drewN ?_ _) | (with_reducible refine Kd.C_drew ?_)))
            (case side4 => exact (Kd.R_reads' HO4050.out).2.1)
            rintro e w76 ⟨rfl, hb⟩
            refine ⟨_, rfl, ?_⟩
            have n0_ := Aside0.mk (Kd.R_below (by (with_reducible repeat (first | apply Kd.R_alloc | apply Kd.R_drewN | apply Kd.R_drew)); exact HO4010.out) hb)
            have n1_ := Aside0.mk (Kd.R_below (by (with_reducible repeat (first | apply Kd.R_alloc | apply Kd.R_drewN | apply Kd.R_drew)); exact HO4016.out) hb)
            have n2_ := Aside0.mk (Kd.R_below (by (with_reducible repeat (first | apply Kd.R_alloc | apply Kd.R_drewN | apply Kd.R_drew)); exact HO4019.out) hb)
            have n3_ := Aside0.mk (Kd.R_below (by (with_reducible repeat (first | apply Kd.R_alloc | apply Kd.R_drewN | apply Kd.R_drew)); exact HO4025.out) hb)
            have n4_ := Aside0.mk (Kd.R_below (by (with_reducible repeat (first | apply Kd.R_alloc | apply Kd.R_drewN | apply Kd.R_drew)); exact HO4032.out) hb)
            have n5_ := Aside0.mk (Kd.R_below (by (with_reducible repeat (first | apply Kd.R_alloc | apply Kd.R_drewN | apply Kd.R_drew)); exact HO4036.out) hb)
            have n6_ := Aside0.mk (Kd.R_below (by (with_reducible repeat (first | apply Kd.R_alloc | apply Kd.R_drewN | apply Kd.R_drew)); exact HO4043.out) hb)
            have n7_ := Aside0.mk (Kd.R_below (by (with_reducible repeat (first | apply Kd.R_alloc | apply Kd.R_drewN | apply Kd.R_drew)); exact HO4050.out) hb)
            have n8_ := Aside0.mk (blk_below (g := gb4001) (o := .cells #[.int .i64 a0_0, .int .i64 a0_1, .int .i64 a0_2, .slice A0_3 l0_3.length c0_3] 24 (0, 0)) (by (with_reducible repeat (first | refine blk_drewN ?_ _ | refine blk_drew ?_ | refine blk_alloc ?_ _)); exact BK4001.out) hb)
            have n9_ := Aside0.mk (blk_below (g := gb4002) (o := .cells #[.int .i64 a1_0, .int .i64 a1_1, .int .i64 a1_2, .slice A1_3 l1_3.length c1_3] 24 (0, 0)) (by (with_reducible repeat (first | refine blk_drewN ?_ _ | refine blk_drew ?_ | refine blk_alloc ?_ _)); exact BK4002.out) hb)
            have n10_ := Aside0.mk (blk_below (g := gb4026) (o := .cells #[.int .i64 t4020, .int .i64 t4021, .int .i64 t4022, .slice Ao55 t4023.length co55] 28 (0, 0)) (by (with_reducible repeat (first | refine blk_drewN ?_ _ | refine blk_drew ?_ | refine blk_alloc ?_ _)); exact BK4026.out) hb)
            have n11_ := Aside0.mk (blk_below (g := gb4033) (o := .cells #[.int .i64 t4027, .int .i64 t4028, .int .i64 t4029, .slice Ao63 t4030.length co63] 28 (0, 0)) (by (with_reducible repeat (first | refine blk_drewN ?_ _ | refine blk_drew ?_ | refine blk_alloc ?_ _)); exact BK4033.out) hb)
            have n12_ := Aside0.mk (below_step (by repeat (first | (with_reducible first | exact HB.out | apply below_alloc | apply pw_below_drewN | apply below_drew1 | refine below_set ?_ GE4001.out | refine below_set ?_ GE4002.out | refine below_set ?_ GE4026.out | refine below_set ?_ GE4033.out) | exact HB.out)) hb)
            clear HO4010
            clear HO4016
            clear HO4019
            clear HO4025
            clear HO4032
            clear HO4036
            clear HO4043
            clear HO4050
            clear BK4001
            clear BK4002
            clear BK4026
            clear BK4033
            clear HB
            have HO4010 := n0_
            have HO4016 := n1_
            have HO4019 := n2_
            have HO4025 := n3_
            have HO4032 := n4_
            have HO4036 := n5_
            have HO4043 := n6_
            have HO4050 := n7_
            have BK4001 := n8_
            have BK4002 := n9_
            have BK4026 := n10_
            have BK4033 := n11_
            have HB := n12_
            clear n0_ n1_ n2_ n3_ n4_ n5_ n6_ n7_ n8_ n9_ n10_ n11_ n12_
            (try clear hb)
            (try clear hb2)
            (try clear hk)
            (try clear hi)
            refine hK.out _ _ ⟨(blk_cell BK4033.out 0).trans rfl, (blk_cell BK4033.out 1).trans rfl, (blk_cell BK4033.out 2).trans rfl, (blk_cell BK4033.out 3).trans rfl, (blk_cell BK4002.out 0).trans rfl, (blk_cell BK4002.out 1).trans rfl, (blk_cell BK4002.out 2).trans rfl, (blk_cell BK4002.out 3).trans rfl⟩ (fun hHeld => ?_)
            clear hK K
            refine norm_ (a' := ?_) ?_ ?_
            rotate_left
            · show Act.put _ (some 48) _ = _
              simp only [Act.put, List.setIfInBounds_toArray, List.set_cons_zero, List.set_cons_succ, i64_w, i32_w]
              rfl
            refine pure_ (i := 4) (N := some 49) (v := ?_) (a' := ?_) #[true, true, true, true, true] rfl rfl (by kernel_rfl) (fun _ _ _ h => h) (Or.inl ⟨by rfl, ?_⟩) ?_ ?_
            rotate_left
            · intro w'
              go_simp
              with_reducible rfl
            rotate_left
            · simp only [Act.put, List.setIfInBounds_toArray, List.set_cons_zero, List.set_cons_succ, i64_w, i32_w]
              rfl
            refine done_ (by kernel_rfl) ?_
            have hcz77_0 : w76.cell? ⟨gb4026, 0, none⟩ = some (.int .i64 t4020) := (blk_cell BK4026.out 0).trans rfl
            have hcz77_1 : w76.cell? ⟨gb4026, 1, none⟩ = some (.int .i64 t4021) := (blk_cell BK4026.out 1).trans rfl
            have hcz77_2 : w76.cell? ⟨gb4026, 2, none⟩ = some (.int .i64 t4022) := (blk_cell BK4026.out 2).trans rfl
            have hcz77_3 : w76.cell? ⟨gb4026, 3, none⟩ = some (.slice Ao55 t4023.length co55) := (blk_cell BK4026.out 3).trans rfl
            have hfz77_0 := blk_frozen BK4026.out 0
            have hfz77_1 := blk_frozen BK4026.out 1
            have hfz77_2 := blk_frozen BK4026.out 2
            have hfz77_3 := blk_frozen BK4026.out 3
            go_upto_region 21 with (first | ((with_reducible refine gate_callee (f := 17) rfl ?_); refine goesL_ (some 52) rfl rfl Try.func17 (by kernel_rfl) rfl #[.agg #[.int .i64 t4020, .int .i64 t4021, .int .i64 t4022, .slice Ao55 t4023.length co55], .int .i64 1] rfl (by (try simp only [List.map_toArray, List.map_cons, List.map_nil]); first | done | rfl | (simp only [List.length_drop, List.length_take]; rfl)) ?_; (with_reducible refine (laws_markImage.calls k t4020 t4021 t4022 (fun k_ => some k_ = (.slice Ao55 t4023.length co55 : Value).ownBlock) (.slice Ao55 t4023.length co55) t4023 1 t4052 t4053 w _ ?side1 ?side2 A33.out).mono ?_); (case side1 => repeat (first | (with_reducible first | exact HB.out | apply below_alloc | apply pw_below_drewN | apply below_drew1 | refine below_set ?_ GE4001.out | refine below_set ?_ GE4002.out | refine below_set ?_ GE4026.out | refine below_set ?_ GE4033.out) | exact HB.out)); (case side2 => exact Kd.R_tight rfl HO4025.out); rintro e w78 ⟨rfl, hy0, hb, hkp⟩; refine ⟨_, rfl, ?_⟩; have n0_ := Aside0.mk (blk_kept (by (with_reducible repeat (first | refine blk_drewN ?_ _ | refine blk_drew ?_ | refine blk_alloc ?_ _)); exact BK4001.out) hkp (fun hs_ => (fun e_ => (Kd.R_ne HO4025.out BK4001.out (by decide)) e_) hs_)); have n1_ := Aside0.mk (blk_kept (by (with_reducible repeat (first | refine blk_drewN ?_ _ | refine blk_drew ?_ | refine blk_alloc ?_ _)); exact BK4002.out) hkp (fun hs_ => (fun e_ => (Kd.R_ne HO4025.out BK4002.out (by decide)) e_) hs_)); have n2_ := Aside0.mk (Kd.R_mono (ok' := fun k_ => some k_ ≠ (.slice Ao47 t4014.length co47 : Value).ownBlock ∧ some k_ ≠ (.slice Ao55 t4023.length co55 : Value).ownBlock ∧ some k_ ≠ (.slice Ao63 t4030.length co63 : Value).ownBlock ∧ some k_ ≠ (.slice Ao71 t4041.length co71 : Value).ownBlock ∧ some k_ ≠ (.slice Ao75 t4048.length co75 : Value).ownBlock) (Kd.R_keptB (HO4010.out) hkp (fun k_ hk_ hs_ => (hk_.1.1.1.2) hs_)) (fun k_ hk_ => ⟨hk_.1.1.1.1.1.2, hk_.1.1.1.1.2, hk_.1.1.1.2, hk_.1.1.2, hk_.1.2⟩)); have n3_ := Aside0.mk (Kd.R_mono (ok' := fun k_ => some k_ ≠ (.slice Ao46 t4008.length co46 : Value).ownBlock ∧ some k_ ≠ (.slice Ao55 t4023.length co55 : Value).ownBlock ∧ some k_ ≠ (.slice Ao63 t4030.length co63 : Value).ownBlock ∧ some k_ ≠ (.slice Ao71 t4041.length co71 : Value).ownBlock ∧ some k_ ≠ (.slice Ao75 t4048.length co75 : Value).ownBlock) (Kd.R_keptB (HO4016.out) hkp (fun k_ hk_ hs_ => (hk_.1.1.1.2) hs_)) (fun k_ hk_ => ⟨hk_.1.1.1.1.1.2, hk_.1.1.1.1.2, hk_.1.1.1.2, hk_.1.1.2, hk_.1.2⟩)); have n4_ := Aside0.mk (Kd.R_mono (ok' := fun k_ => some k_ ≠ (.slice Ao66 t4034.length co66 : Value).ownBlock) (Kd.R_keptB ((Kd.R_apart' HO4019.out (Kd.R_typed HO4025.out) (by decide))) hkp (fun k_ hk_ hs_ => (hk_.2) hs_)) (fun k_ hk_ => hk_.1.1.2)); have n5_ := Aside0.mk (Kd.R_reok rfl hy0 (fun k_ e_ => HO4025.out.1 k_ e_)); have n6_ := Aside0.mk (blk_kept (by (with_reducible repeat (first | refine blk_drewN ?_ _ | refine blk_drew ?_ | refine blk_alloc ?_ _)); exact BK4026.out) hkp (fun hs_ => (fun e_ => (Kd.R_ne HO4025.out BK4026.out (by decide)) e_) hs_)); have n7_ := Aside0.mk (Kd.R_mono (ok' := fun k_ => some k_ ≠ (.slice Ao46 t4008.length co46 : Value).ownBlock ∧ some k_ ≠ (.slice Ao47 t4014.length co47 : Value).ownBlock ∧ some k_ ≠ (.slice Ao55 t4023.length co55 : Value).ownBlock ∧ some k_ ≠ (.slice Ao71 t4041.length co71 : Value).ownBlock ∧ some k_ ≠ (.slice Ao75 t4048.length co75 : Value).ownBlock) (Kd.R_keptB (HO4032.out) hkp (fun k_ hk_ hs_ => (hk_.1.1.2) hs_)) (fun k_ hk_ => ⟨hk_.1.1.1.1.1.2, hk_.1.1.1.1.2, hk_.1.1.1.2, hk_.1.1.2, hk_.1.2⟩)); have n8_ := Aside0.mk (blk_kept (by (with_reducible repeat (first | refine blk_drewN ?_ _ | refine blk_drew ?_ | refine blk_alloc ?_ _)); exact BK4033.out) hkp (fun hs_ => (fun e_ => (Kd.R_ne HO4025.out BK4033.out (by decide)) e_) hs_)); have n9_ := Aside0.mk (Kd.R_mono (ok' := fun k_ => some k_ ≠ (.slice Ao67 t4017.length co67 : Value).ownBlock) (Kd.R_keptB ((Kd.R_apart' HO4036.out (Kd.R_typed HO4025.out) (by decide))) hkp (fun k_ hk_ hs_ => (hk_.2) hs_)) (fun k_ hk_ => hk_.1.1.2)); have n10_ := Aside0.mk (Kd.R_mono (ok' := fun k_ => some k_ ≠ (.slice Ao46 t4008.length co46 : Value).ownBlock ∧ some k_ ≠ (.slice Ao47 t4014.length co47 : Value).ownBlock ∧ some k_ ≠ (.slice Ao55 t4023.length co55 : Value).ownBlock ∧ some k_ ≠ (.slice Ao63 t4030.length co63 : Value).ownBlock ∧ some k_ ≠ (.slice Ao75 t4048.length co75 : Value).ownBlock) (Kd.R_keptB (HO4043.out) hkp (fun k_ hk_ hs_ => (hk_.1.1.2) hs_)) (fun k_ hk_ => ⟨hk_.1.1.1.1.1.2, hk_.1.1.1.1.2, hk_.1.1.1.2, hk_.1.1.2, hk_.1.2⟩)); have n11_ := Aside0.mk (Kd.R_mono (ok' := fun k_ => some k_ ≠ (.slice Ao46 t4008.length co46 : Value).ownBlock ∧ some k_ ≠ (.slice Ao47 t4014.length co47 : Value).ownBlock ∧ some k_ ≠ (.slice Ao55 t4023.length co55 : Value).ownBlock ∧ some k_ ≠ (.slice Ao63 t4030.length co63 : Value).ownBlock ∧ some k_ ≠ (.slice Ao71 t4041.length co71 : Value).ownBlock) (Kd.R_keptB (HO4050.out) hkp (fun k_ hk_ hs_ => (hk_.1.1.2) hs_)) (fun k_ hk_ => ⟨hk_.1.1.1.1.1.2, hk_.1.1.1.1.2, hk_.1.1.1.2, hk_.1.1.2, hk_.1.2⟩)); have n12_ := Aside0.mk (hb); clear BK4001; clear BK4002; clear HO4010; clear HO4016; clear HO4019; clear HO4025; clear BK4026; clear HO4032; clear BK4033; clear HO4036; clear HO4043; clear HO4050; clear HB; have BK4001 := n0_; have BK4002 := n1_; have HO4010 := n2_; have HO4016 := n3_; have HO4019 := n4_; have HO4025 := n5_; have BK4026 := n6_; have HO4032 := n7_; have BK4033 := n8_; have HO4036 := n9_; have HO4043 := n10_; have HO4050 := n11_; have HB := n12_; clear n0_ n1_ n2_ n3_ n4_ n5_ n6_ n7_ n8_ n9_ n10_ n11_ n12_; (try clear hb); (try clear hkp); (try clear hy0); have hcz79_0 : w78.cell? ⟨gb4033, 0, none⟩ = some (.int .i64 t4027) := (blk_cell BK4033.out 0).trans rfl; have hcz79_1 : w78.cell? ⟨gb4033, 1, none⟩ = some (.int .i64 t4028) := (blk_cell BK4033.out 1).trans rfl; have hcz79_2 : w78.cell? ⟨gb4033, 2, none⟩ = some (.int .i64 t4029) := (blk_cell BK4033.out 2).trans rfl; have hcz79_3 : w78.cell? ⟨gb4033, 3, none⟩ = some (.slice Ao63 t4030.length co63) := (blk_cell BK4033.out 3).trans rfl; have hfz79_0 := blk_frozen BK4033.out 0; have hfz79_1 := blk_frozen BK4033.out 1; have hfz79_2 := blk_frozen BK4033.out 2; have hfz79_3 := blk_frozen BK4033.out 3) | ((with_reducible refine gate_callee (f := 17) rfl ?_); refine goesL_ (some 55) rfl rfl Try.func17 (by kernel_rfl) rfl #[.agg #[.int .i64 t4027, .int .i64 t4028, .int .i64 t4029, .slice Ao63 t4030.length co63], .int .i64 t4052] rfl (by (try simp only [List.map_toArray, List.map_cons, List.map_nil]); first | done | rfl | (simp only [List.length_drop, List.length_take]; rfl)) ?_; (with_reducible refine (laws_markImage.calls k t4027 t4028 t4029 (fun k_ => some k_ = (.slice Ao63 t4030.length co63 : Value).ownBlock) (.slice Ao63 t4030.length co63) t4030 t4052 t4054 t4055 w _ ?side1 ?side2 A34.out).mono ?_); (case side1 => repeat (first | (with_reducible first | exact HB.out | apply below_alloc | apply pw_below_drewN | apply below_drew1 | refine below_set ?_ GE4001.out | refine below_set ?_ GE4002.out | refine below_set ?_ GE4026.out | refine below_set ?_ GE4033.out) | exact HB.out)); (case side2 => exact Kd.R_tight rfl HO4032.out); rintro e w80 ⟨rfl, hy0, hb, hkp⟩; refine ⟨_, rfl, ?_⟩; have n0_ := Aside0.mk (blk_kept (by (with_reducible repeat (first | refine blk_drewN ?_ _ | refine blk_drew ?_ | refine blk_alloc ?_ _)); exact BK4001.out) hkp (fun hs_ => (fun e_ => (Kd.R_ne HO4032.out BK4001.out (by decide)) e_) hs_)); have n1_ := Aside0.mk (blk_kept (by (with_reducible repeat (first | refine blk_drewN ?_ _ | refine blk_drew ?_ | refine blk_alloc ?_ _)); exact BK4002.out) hkp (fun hs_ => (fun e_ => (Kd.R_ne HO4032.out BK4002.out (by decide)) e_) hs_)); have n2_ := Aside0.mk (Kd.R_mono (ok' := fun k_ => some k_ ≠ (.slice Ao47 t4014.length co47 : Value).ownBlock ∧ some k_ ≠ (.slice Ao55 t4023.length co55 : Value).ownBlock ∧ some k_ ≠ (.slice Ao63 t4030.length co63 : Value).ownBlock ∧ some k_ ≠ (.slice Ao71 t4041.length co71 : Value).ownBlock ∧ some k_ ≠ (.slice Ao75 t4048.length co75 : Value).ownBlock) (Kd.R_keptB (HO4010.out) hkp (fun k_ hk_ hs_ => (hk_.2.2.1) hs_)) (fun k_ hk_ => ⟨hk_.1.1, hk_.1.2.1, hk_.1.2.2.1, hk_.1.2.2.2.1, hk_.1.2.2.2.2⟩)); have n3_ := Aside0.mk (Kd.R_mono (ok' := fun k_ => some k_ ≠ (.slice Ao46 t4008.length co46 : Value).ownBlock ∧ some k_ ≠ (.slice Ao55 t4023.length co55 : Value).ownBlock ∧ some k_ ≠ (.slice Ao63 t4030.length co63 : Value).ownBlock ∧ some k_ ≠ (.slice Ao71 t4041.length co71 : Value).ownBlock ∧ some k_ ≠ (.slice Ao75 t4048.length co75 : Value).ownBlock) (Kd.R_keptB (HO4016.out) hkp (fun k_ hk_ hs_ => (hk_.2.2.1) hs_)) (fun k_ hk_ => ⟨hk_.1.1, hk_.1.2.1, hk_.1.2.2.1, hk_.1.2.2.2.1, hk_.1.2.2.2.2⟩)); have n4_ := Aside0.mk (Kd.R_mono (ok' := fun k_ => some k_ ≠ (.slice Ao66 t4034.length co66 : Value).ownBlock) (Kd.R_keptB ((Kd.R_apart' HO4019.out (Kd.R_typed HO4032.out) (by decide))) hkp (fun k_ hk_ hs_ => (hk_.2) hs_)) (fun k_ hk_ => hk_.1.1)); have n5_ := Aside0.mk (Kd.R_mono (ok' := fun k_ => some k_ ≠ (.slice Ao46 t4008.length co46 : Value).ownBlock ∧ some k_ ≠ (.slice Ao47 t4014.length co47 : Value).ownBlock ∧ some k_ ≠ (.slice Ao63 t4030.length co63 : Value).ownBlock ∧ some k_ ≠ (.slice Ao71 t4041.length co71 : Value).ownBlock ∧ some k_ ≠ (.slice Ao75 t4048.length co75 : Value).ownBlock) (Kd.R_keptB (HO4025.out) hkp (fun k_ hk_ hs_ => (hk_.1.1.2) hs_)) (fun k_ hk_ => ⟨hk_.1.1.1.1.1.2, hk_.1.1.1.1.2, hk_.1.1.1.2, hk_.1.1.2, hk_.1.2⟩)); have n6_ := Aside0.mk (blk_kept (by (with_reducible repeat (first | refine blk_drewN ?_ _ | refine blk_drew ?_ | refine blk_alloc ?_ _)); exact BK4026.out) hkp (fun hs_ => (fun e_ => (Kd.R_ne HO4032.out BK4026.out (by decide)) e_) hs_)); have n7_ := Aside0.mk (Kd.R_reok rfl hy0 (fun k_ e_ => HO4032.out.1 k_ e_)); have n8_ := Aside0.mk (blk_kept (by (with_reducible repeat (first | refine blk_drewN ?_ _ | refine blk_drew ?_ | refine blk_alloc ?_ _)); exact BK4033.out) hkp (fun hs_ => (fun e_ => (Kd.R_ne HO4032.out BK4033.out (by decide)) e_) hs_)); have n9_ := Aside0.mk (Kd.R_mono (ok' := fun k_ => some k_ ≠ (.slice Ao67 t4017.length co67 : Value).ownBlock) (Kd.R_keptB ((Kd.R_apart' HO4036.out (Kd.R_typed HO4032.out) (by decide))) hkp (fun k_ hk_ hs_ => (hk_.2) hs_)) (fun k_ hk_ => hk_.1.1)); have n10_ := Aside0.mk (Kd.R_mono (ok' := fun k_ => some k_ ≠ (.slice Ao46 t4008.length co46 : Value).ownBlock ∧ some k_ ≠ (.slice Ao47 t4014.length co47 : Value).ownBlock ∧ some k_ ≠ (.slice Ao55 t4023.length co55 : Value).ownBlock ∧ some k_ ≠ (.slice Ao63 t4030.length co63 : Value).ownBlock ∧ some k_ ≠ (.slice Ao75 t4048.length co75 : Value).ownBlock) (Kd.R_keptB (HO4043.out) hkp (fun k_ hk_ hs_ => (hk_.2.2.2.1) hs_)) (fun k_ hk_ => ⟨hk_.1.1, hk_.1.2.1, hk_.1.2.2.1, hk_.1.2.2.2.1, hk_.1.2.2.2.2⟩)); have n11_ := Aside0.mk (Kd.R_mono (ok' := fun k_ => some k_ ≠ (.slice Ao46 t4008.length co46 : Value).ownBlock ∧ some k_ ≠ (.slice Ao47 t4014.length co47 : Value).ownBlock ∧ some k_ ≠ (.slice Ao55 t4023.length co55 : Value).ownBlock ∧ some k_ ≠ (.slice Ao63 t4030.length co63 : Value).ownBlock ∧ some k_ ≠ (.slice Ao71 t4041.length co71 : Value).ownBlock) (Kd.R_keptB (HO4050.out) hkp (fun k_ hk_ hs_ => (hk_.2.2.2.1) hs_)) (fun k_ hk_ => ⟨hk_.1.1, hk_.1.2.1, hk_.1.2.2.1, hk_.1.2.2.2.1, hk_.1.2.2.2.2⟩)); have n12_ := Aside0.mk (hb); clear BK4001; clear BK4002; clear HO4010; clear HO4016; clear HO4019; clear HO4025; clear BK4026; clear HO4032; clear BK4033; clear HO4036; clear HO4043; clear HO4050; clear HB; have BK4001 := n0_; have BK4002 := n1_; have HO4010 := n2_; have HO4016 := n3_; have HO4019 := n4_; have HO4025 := n5_; have BK4026 := n6_; have HO4032 := n7_; have BK4033 := n8_; have HO4036 := n9_; have HO4043 := n10_; have HO4050 := n11_; have HB := n12_; clear n0_ n1_ n2_ n3_ n4_ n5_ n6_ n7_ n8_ n9_ n10_ n11_ n12_; (try clear hb); (try clear hkp); (try clear hy0)))
            (try simp only [Act.put, List.setIfInBounds_toArray, List.set_cons_zero, List.set_cons_succ])
            go_cut [63] (fun v63 wc => ∃ (kq : Nat) (x63_34 : Bool), v63 = .bool x63_34 ∧ Aside0 (laws_FnExactChangedRegion.j0 kq t4017 t4034 x63_34 a0_0 a0_1 a0_2 l0_3 a1_0 a1_1 a1_2 l1_3 = some r) ∧ Aside0 (kq ≤ k) ∧ Aside0 (Kd.R k47 47 wc w.heap.size (fun k_ => some k_ ≠ ((.slice Ao66 t4034.length co66) : Value).ownBlock) (.slice Ao67 t4017.length co67) t4017) ∧ Aside0 (Kd.R k47 47 wc w.heap.size (fun k_ => some k_ ≠ ((.slice Ao67 t4017.length co67) : Value).ownBlock) (.slice Ao66 t4034.length co66) t4034) ∧ Aside0 (Kd.R (Kd.int .i64) 3 wc w.heap.size (fun k_ => some k_ ≠ ((.slice Ao63 t4030.length co63) : Value).ownBlock) (.slice Ao55 t4023.length co55) t4053) ∧ Aside0 (Kd.R (Kd.int .i64) 3 wc w.heap.size (fun k_ => some k_ ≠ ((.slice Ao55 t4023.length co55) : Value).ownBlock) (.slice Ao63 t4030.length co63) t4055) ∧ Aside0 (wc.heap[gb4001]? = some (.cells #[.int .i64 a0_0, .int .i64 a0_1, .int .i64 a0_2, (.slice A0_3 l0_3.length c0_3)] 24 (0, 0))) ∧ Aside0 (wc.heap[gb4002]? = some (.cells #[.int .i64 a1_0, .int .i64 a1_1, .int .i64 a1_2, (.slice A1_3 l1_3.length c1_3)] 24 (0, 0))) ∧ Aside0 (wc.heap[gb4026]? = some (.cells #[.int .i64 t4020, .int .i64 t4021, .int .i64 t4022, (.slice Ao55 t4023.length co55)] 28 (0, 0))) ∧ Aside0 (wc.heap[gb4033]? = some (.cells #[.int .i64 t4027, .int .i64 t4028, .int .i64 t4029, (.slice Ao63 t4030.length co63)] 28 (0, 0))) ∧ Aside0 (Below w.heap.size w wc))
            case first =>
              have H := HC35.out
              clear HC35
              by_cases c81 : t4054 < 0
              · rw [if_pos c81] at H
                have c81b0 : decide (t4054 < 0) = true := decide_eq_true c81
                clear c81
                (first | rw [c81b0] | (simp only [i64_w, i32_w]; rw [c81b0]) | skip)
                have H' := Aside0.mk H
                clear H
                go_wp2
                go_meet
                case rel => exact ⟨_, (true), (by first | rfl | (simp; done) | (simp [*]; done)), H', ⟨by first | omega | exact Nat.le_refl _⟩, ⟨by (with_reducible repeat (first | apply Kd.R_alloc | apply Kd.R_drewN | apply Kd.R_drew)); exact HO4019.out⟩, ⟨by (with_reducible repeat (first | apply Kd.R_alloc | apply Kd.R_drewN | apply Kd.R_drew)); exact HO4036.out⟩, ⟨by (with_reducible repeat (first | apply Kd.R_alloc | apply Kd.R_drewN | apply Kd.R_drew)); exact Kd.R_mono HO4025.out (fun _ hk => hk.2.2.1)⟩, ⟨by (with_reducible repeat (first | apply Kd.R_alloc | apply Kd.R_drewN | apply Kd.R_drew)); exact Kd.R_mono HO4032.out (fun _ hk => hk.2.2.1)⟩, ⟨by (with_reducible repeat (first | refine blk_drewN ?_ _ | refine blk_drew ?_ | refine blk_alloc ?_ _)); exact BK4001.out⟩, ⟨by (with_reducible repeat (first | refine blk_drewN ?_ _ | refine blk_drew ?_ | refine blk_alloc ?_ _)); exact BK4002.out⟩, ⟨by (with_reducible repeat (first | refine blk_drewN ?_ _ | refine blk_drew ?_ | refine blk_alloc ?_ _)); exact BK4026.out⟩, ⟨by (with_reducible repeat (first | refine blk_drewN ?_ _ | refine blk_drew ?_ | refine blk_alloc ?_ _)); exact BK4033.out⟩, ⟨by repeat (first | (with_reducible first | exact HB.out | apply below_alloc | apply pw_below_drewN | apply below_drew1 | refine below_set ?_ GE4001.out | refine below_set ?_ GE4002.out | refine below_set ?_ GE4026.out | refine below_set ?_ GE4033.out) | exact HB.out)⟩⟩
              · rw [if_neg c81] at H
                have c81b0 : decide (t4054 < 0) = false := decide_eq_false c81
                clear c81
                (first | rw [c81b0] | (simp only [i64_w, i32_w]; rw [c81b0]) | skip)
                replace H := Option.bind_eq_some_iff.mp H
                obtain ⟨t4056, A820, H⟩ := H
                replace H : (laws_FnExactChangedRegion.j0 k t4017 t4034 (!t4056) a0_0 a0_1 a0_2 l0_3 a1_0 a1_1 a1_2 l1_3) = some r := H
                have A82 := Aside0.mk A820
                clear A820
                have H' := Aside0.mk H
                clear H
                go_wp2_with (first | (go_at_call 15; (with_reducible refine (laws_eqRunS.calls k _ _ t4034 _ _ t4017 t4056 _ ?side1 ?side2 ?side3 ?side4 A82.out).mono ?_); (case side1 => repeat (first | exact (Kd.R_reads' HO4036.out).2.2 | (with_reducible refine Kd.C_alloc ?_ _) | (with_reducible refine Kd.C_drewN ?_ _) | (with_reducible refine Kd.C_drew ?_))); (case side2 => exact (Kd.R_reads' HO4036.out).2.1); (case side3 => repeat (first | exact (Kd.R_reads' HO4019.out).2.2 | (with_reducible refine Kd.C_alloc ?_ _) | (with_reducible refine Kd.C_drewN ?_ _) | (with_reducible refine Kd.C_drew ?_))); (case side4 => exact (Kd.R_reads' HO4019.out).2.1); rintro e w83 ⟨rfl, hb⟩; have n0_ := Aside0.mk (Kd.R_below (by (with_reducible repeat (first | apply Kd.R_alloc | apply Kd.R_drewN | apply Kd.R_drew)); exact HO4010.out) hb); have n1_ := Aside0.mk (Kd.R_below (by (with_reducible repeat (first | apply Kd.R_alloc | apply Kd.R_drewN | apply Kd.R_drew)); exact HO4016.out) hb); have n2_ := Aside0.mk (Kd.R_below (by (with_reducible repeat (first | apply Kd.R_alloc | apply Kd.R_drewN | apply Kd.R_drew)); exact HO4019.out) hb); have n3_ := Aside0.mk (Kd.R_below (by (with_reducible repeat (first | apply Kd.R_alloc | apply Kd.R_drewN | apply Kd.R_drew)); exact HO4025.out) hb); have n4_ := Aside0.mk (Kd.R_below (by (with_reducible repeat (first | apply Kd.R_alloc | apply Kd.R_drewN | apply Kd.R_drew)); exact HO4032.out) hb); have n5_ := Aside0.mk (Kd.R_below (by (with_reducible repeat (first | apply Kd.R_alloc | apply Kd.R_drewN | apply Kd.R_drew)); exact HO4036.out) hb); have n6_ := Aside0.mk (Kd.R_below (by (with_reducible repeat (first | apply Kd.R_alloc | apply Kd.R_drewN | apply Kd.R_drew)); exact HO4043.out) hb); have n7_ := Aside0.mk (Kd.R_below (by (with_reducible repeat (first | apply Kd.R_alloc | apply Kd.R_drewN | apply Kd.R_drew)); exact HO4050.out) hb); have n8_ := Aside0.mk (blk_below (g := gb4001) (o := .cells #[.int .i64 a0_0, .int .i64 a0_1, .int .i64 a0_2, .slice A0_3 l0_3.length c0_3] 24 (0, 0)) (by (with_reducible repeat (first | refine blk_drewN ?_ _ | refine blk_drew ?_ | refine blk_alloc ?_ _)); exact BK4001.out) hb); have n9_ := Aside0.mk (blk_below (g := gb4002) (o := .cells #[.int .i64 a1_0, .int .i64 a1_1, .int .i64 a1_2, .slice A1_3 l1_3.length c1_3] 24 (0, 0)) (by (with_reducible repeat (first | refine blk_drewN ?_ _ | refine blk_drew ?_ | refine blk_alloc ?_ _)); exact BK4002.out) hb); have n10_ := Aside0.mk (blk_below (g := gb4026) (o := .cells #[.int .i64 t4020, .int .i64 t4021, .int .i64 t4022, .slice Ao55 t4023.length co55] 28 (0, 0)) (by (with_reducible repeat (first | refine blk_drewN ?_ _ | refine blk_drew ?_ | refine blk_alloc ?_ _)); exact BK4026.out) hb); have n11_ := Aside0.mk (blk_below (g := gb4033) (o := .cells #[.int .i64 t4027, .int .i64 t4028, .int .i64 t4029, .slice Ao63 t4030.length co63] 28 (0, 0)) (by (with_reducible repeat (first | refine blk_drewN ?_ _ | refine blk_drew ?_ | refine blk_alloc ?_ _)); exact BK4033.out) hb); have n12_ := Aside0.mk (below_step (by repeat (first | (with_reducible first | exact HB.out | apply below_alloc | apply pw_below_drewN | apply below_drew1 | refine below_set ?_ GE4001.out | refine below_set ?_ GE4002.out | refine below_set ?_ GE4026.out | refine below_set ?_ GE4033.out) | exact HB.out)) hb); clear HO4010; clear HO4016; clear HO4019; clear HO4025; clear HO4032; clear HO4036; clear HO4043; clear HO4050; clear BK4001; clear BK4002; clear BK4026; clear BK4033; clear HB; have HO4010 := n0_; have HO4016 := n1_; have HO4019 := n2_; have HO4025 := n3_; have HO4032 := n4_; have HO4036 := n5_; have HO4043 := n6_; have HO4050 := n7_; have BK4001 := n8_; have BK4002 := n9_; have BK4026 := n10_; have BK4033 := n11_; have HB := n12_; clear n0_ n1_ n2_ n3_ n4_ n5_ n6_ n7_ n8_ n9_ n10_ n11_ n12_; (try clear hb); (try clear hb2); (try clear hk); (try clear hi)))
                go_meet
                case rel => exact ⟨_, (!t4056), (by first | rfl | (simp; done) | (simp [*]; done)), H', ⟨by first | omega | exact Nat.le_refl _⟩, ⟨by (with_reducible repeat (first | apply Kd.R_alloc | apply Kd.R_drewN | apply Kd.R_drew)); exact HO4019.out⟩, ⟨by (with_reducible repeat (first | apply Kd.R_alloc | apply Kd.R_drewN | apply Kd.R_drew)); exact HO4036.out⟩, ⟨by (with_reducible repeat (first | apply Kd.R_alloc | apply Kd.R_drewN | apply Kd.R_drew)); exact Kd.R_mono HO4025.out (fun _ hk => hk.2.2.1)⟩, ⟨by (with_reducible repeat (first | apply Kd.R_alloc | apply Kd.R_drewN | apply Kd.R_drew)); exact Kd.R_mono HO4032.out (fun _ hk => hk.2.2.1)⟩, ⟨by (with_reducible repeat (first | refine blk_drewN ?_ _ | refine blk_drew ?_ | refine blk_alloc ?_ _)); exact BK4001.out⟩, ⟨by (with_reducible repeat (first | refine blk_drewN ?_ _ | refine blk_drew ?_ | refine blk_alloc ?_ _)); exact BK4002.out⟩, ⟨by (with_reducible repeat (first | refine blk_drewN ?_ _ | refine blk_drew ?_ | refine blk_alloc ?_ _)); exact BK4026.out⟩, ⟨by (with_reducible repeat (first | refine blk_drewN ?_ _ | refine blk_drew ?_ | refine blk_alloc ?_ _)); exact BK4033.out⟩, ⟨by repeat (first | (with_reducible first | exact HB.out | apply below_alloc | apply pw_below_drewN | apply below_drew1 | refine below_set ?_ GE4001.out | refine below_set ?_ GE4002.out | refine below_set ?_ GE4026.out | refine below_set ?_ GE4033.out) | exact HB.out)⟩⟩
            case rest =>
              clear HC35
              try clear c1
              try clear c2
              try clear p2
              try clear c3
              try clear c5
              try clear c6
              try clear c8
              try clear c11
              try clear c12
              try clear c13
              try clear c14
              try clear c15
              try clear c16
              try clear c17
              try clear c29
              try clear c32
              try clear c38
              try clear c52
              try clear c53
              try clear c59
              try clear c60
              try clear c61
              try clear c81
              try clear c81b0
              try clear hcz39_0
              try clear hcz39_1
              try clear hcz39_2
              try clear hcz39_3
              try clear hcz41_0
              try clear hcz41_1
              try clear hcz41_2
              try clear hcz41_3
              try clear hcz49_0
              try clear hcz49_1
              try clear hcz49_2
              try clear hcz49_3
              try clear hcz54_0
              try clear hcz54_1
              try clear hcz54_2
              try clear hcz54_3
              try clear hcz56_0
              try clear hcz56_1
              try clear hcz56_2
              try clear hcz56_3
              try clear hcz62_0
              try clear hcz62_1
              try clear hcz62_2
              try clear hcz62_3
              try clear hcz64_0
              try clear hcz64_1
              try clear hcz64_2
              try clear hcz64_3
              try clear hcz77_0
              try clear hcz77_1
              try clear hcz77_2
              try clear hcz77_3
              try clear hcz79_0
              try clear hcz79_1
              try clear hcz79_2
              try clear hcz79_3
              try clear hfz39_0
              try clear hfz39_1
              try clear hfz39_2
              try clear hfz39_3
              try clear hfz41_0
              try clear hfz41_1
              try clear hfz41_2
              try clear hfz41_3
              try clear hfz49_0
              try clear hfz49_1
              try clear hfz49_2
              try clear hfz49_3
              try clear hfz54_0
              try clear hfz54_1
              try clear hfz54_2
              try clear hfz54_3
              try clear hfz56_0
              try clear hfz56_1
              try clear hfz56_2
              try clear hfz56_3
              try clear hfz62_0
              try clear hfz62_1
              try clear hfz62_2
              try clear hfz62_3
              try clear hfz64_0
              try clear hfz64_1
              try clear hfz64_2
              try clear hfz64_3
              try clear hfz77_0
              try clear hfz77_1
              try clear hfz77_2
              try clear hfz77_3
              try clear hfz79_0
              try clear hfz79_1
              try clear hfz79_2
              try clear hfz79_3
              obtain ⟨kq, x63_34, rfl, HA, HJ34, HO_6, HO_9, HO_4027003, HO_4034003, BK4001, BK4002, BK4026, BK4033, HB⟩ := hcut
              have hl4027003_34 := (Kd.R_reads' HO_4027003.out).1
              rw [hl4027003_34] at HO_4027003
              (try simp only [hl4027003_34])
              (try simp only [hl4027003_34] at BK4001)
              (try simp only [hl4027003_34] at BK4002)
              (try simp only [hl4027003_34] at BK4026)
              (try simp only [hl4027003_34] at BK4033)
              (try simp only [hl4027003_34] at HO_6)
              (try simp only [hl4027003_34] at HO_9)
              (try simp only [hl4027003_34] at HO_4034003)
              have hl4034003_34 := (Kd.R_reads' HO_4034003.out).1
              rw [hl4034003_34] at HO_4034003
              (try simp only [hl4034003_34])
              (try simp only [hl4034003_34] at BK4001)
              (try simp only [hl4034003_34] at BK4002)
              (try simp only [hl4034003_34] at BK4026)
              (try simp only [hl4034003_34] at BK4033)
              (try simp only [hl4034003_34] at HO_6)
              (try simp only [hl4034003_34] at HO_9)
              (try simp only [hl4034003_34] at HO_4027003)
              cases kq with
              | zero => exact absurd HA.out (by simp [laws_FnExactChangedRegion.j0])
              | succ kj34 =>
                have H := HA.out
                clear HA
                simp only [laws_FnExactChangedRegion.j0] at H
                by_cases c84 : x63_34 = true
                · subst c84
                  have H1 : (some false) = some r := by rw [if_pos rfl] at H; exact H
                  clear H
                  have H := H1
                  clear H1
                  exact absurd ((Option.some.inj H).trans HRT.out) (by decide)
                · replace c84 := Bool.eq_false_iff.mpr c84
                  subst c84
                  have H1 : ((laws_markRunS.f kj34 t4034 1).bind fun bt4057 => ((laws_heldRunS.f kj34 bt4057.2 1).bind fun t4059 => (if t4059 < 0 then (some false) else (if t4059 = bt4057.1 then ((laws_toImage.f kj34 a0_0 a0_1 a0_2 l0_3).bind fun bt4060 => ((laws_toImage.f kj34 a1_0 a1_1 a1_2 l1_3).bind fun bt4066 => ((impl_ChangedRegion.f bt4060.1 bt4060.2.1 bt4060.2.2.1 bt4060.2.2.2 bt4066.1 bt4066.2.1 bt4066.2.2.1 bt4066.2.2.2).bind fun t4072 => ((laws_eqRunS.f kj34 t4072 t4017).bind fun t4075 => (if t4075 = true then ((laws_heldRunS.f kj34 bt4057.2 1).bind fun t4076 => (if t4076 < 0 then (some false) else (if t4076 = bt4057.1 then (some true) else (some false)))) else (some false)))))) else (some false))))) = some r := by rw [if_neg (show ¬ (false = true) by decide)] at H; exact H
                  clear H
                  have H := H1
                  clear H1
                  replace H := Option.bind_eq_some_iff.mp H
                  obtain ⟨⟨t4057, t4058⟩, A850, H⟩ := H
                  replace H : ((laws_heldRunS.f kj34 t4058 1).bind fun t4059 => (if t4059 < 0 then (some false) else (if t4059 = t4057 then ((laws_toImage.f kj34 a0_0 a0_1 a0_2 l0_3).bind fun bt4060 => ((laws_toImage.f kj34 a1_0 a1_1 a1_2 l1_3).bind fun bt4066 => ((impl_ChangedRegion.f bt4060.1 bt4060.2.1 bt4060.2.2.1 bt4060.2.2.2 bt4066.1 bt4066.2.1 bt4066.2.2.1 bt4066.2.2.2).bind fun t4072 => ((laws_eqRunS.f kj34 t4072 t4017).bind fun t4075 => (if t4075 = true then ((laws_heldRunS.f kj34 t4058 1).bind fun t4076 => (if t4076 < 0 then (some false) else (if t4076 = t4057 then (some true) else (some false)))) else (some false)))))) else (some false)))) = some r := H
                  have A85 := Aside0.mk A850
                  clear A850
                  replace H := Option.bind_eq_some_iff.mp H
                  obtain ⟨t4059, A860, H⟩ := H
                  replace H : (if t4059 < 0 then (some false) else (if t4059 = t4057 then ((laws_toImage.f kj34 a0_0 a0_1 a0_2 l0_3).bind fun bt4060 => ((laws_toImage.f kj34 a1_0 a1_1 a1_2 l1_3).bind fun bt4066 => ((impl_ChangedRegion.f bt4060.1 bt4060.2.1 bt4060.2.2.1 bt4060.2.2.2 bt4066.1 bt4066.2.1 bt4066.2.2.1 bt4066.2.2.2).bind fun t4072 => ((laws_eqRunS.f kj34 t4072 t4017).bind fun t4075 => (if t4075 = true then ((laws_heldRunS.f kj34 t4058 1).bind fun t4076 => (if t4076 < 0 then (some false) else (if t4076 = t4057 then (some true) else (some false)))) else (some false)))))) else (some false))) = some r := H
                  have A86 := Aside0.mk A860
                  clear A860
                  by_cases c87 : t4059 < 0
                  · rw [if_pos c87] at H
                    have c87b0 : decide (t4059 < 0) = true := decide_eq_true c87
                    clear c87
                    exact absurd ((Option.some.inj H).trans HRT.out) (by decide)
                  · rw [if_neg c87] at H
                    have c87b0 : decide (t4059 < 0) = false := decide_eq_false c87
                    clear c87
                    by_cases c89 : t4059 = t4057
                    · rw [if_pos c89] at H
                      have c89b0 : (t4059 == t4057) = true := beq_iff_eq.mpr c89
                      have c89b1 : (t4059 != t4057) = false := bne_eq_false_iff_eq.mpr c89
                      clear c89
                      replace H := Option.bind_eq_some_iff.mp H
                      obtain ⟨⟨t4060, t4061, t4062, t4063⟩, A900, H⟩ := H
                      replace H : ((laws_toImage.f kj34 a1_0 a1_1 a1_2 l1_3).bind fun bt4066 => ((impl_ChangedRegion.f t4060 t4061 t4062 t4063 bt4066.1 bt4066.2.1 bt4066.2.2.1 bt4066.2.2.2).bind fun t4072 => ((laws_eqRunS.f kj34 t4072 t4017).bind fun t4075 => (if t4075 = true then ((laws_heldRunS.f kj34 t4058 1).bind fun t4076 => (if t4076 < 0 then (some false) else (if t4076 = t4057 then (some true) else (some false)))) else (some false))))) = some r := H
                      have A90 := Aside0.mk A900
                      clear A900
                      replace H := Option.bind_eq_some_iff.mp H
                      obtain ⟨⟨t4066, t4067, t4068, t4069⟩, A910, H⟩ := H
                      replace H : ((impl_ChangedRegion.f t4060 t4061 t4062 t4063 t4066 t4067 t4068 t4069).bind fun t4072 => ((laws_eqRunS.f kj34 t4072 t4017).bind fun t4075 => (if t4075 = true then ((laws_heldRunS.f kj34 t4058 1).bind fun t4076 => (if t4076 < 0 then (some false) else (if t4076 = t4057 then (some true) else (some false)))) else (some false)))) = some r := H
                      have A91 := Aside0.mk A910
                      clear A910
                      replace H := Option.bind_eq_some_iff.mp H
                      obtain ⟨t4072, A920, H⟩ := H
                      replace H : ((laws_eqRunS.f kj34 t4072 t4017).bind fun t4075 => (if t4075 = true then ((laws_heldRunS.f kj34 t4058 1).bind fun t4076 => (if t4076 < 0 then (some false) else (if t4076 = t4057 then (some true) else (some false)))) else (some false))) = some r := H
                      have A92 := Aside0.mk A920
                      clear A920
                      replace H := Option.bind_eq_some_iff.mp H
                      obtain ⟨t4075, A930, H⟩ := H
                      replace H : (if t4075 = true then ((laws_heldRunS.f kj34 t4058 1).bind fun t4076 => (if t4076 < 0 then (some false) else (if t4076 = t4057 then (some true) else (some false)))) else (some false)) = some r := H
                      have A93 := Aside0.mk A930
                      clear A930
                      by_cases c94 : t4075 = true
                      · subst c94
                        have H1 : ((laws_heldRunS.f kj34 t4058 1).bind fun t4076 => (if t4076 < 0 then (some false) else (if t4076 = t4057 then (some true) else (some false)))) = some r := by rw [if_pos rfl] at H; exact H
                        clear H
                        have H := H1
                        clear H1
                        replace H := Option.bind_eq_some_iff.mp H
                        obtain ⟨t4076, A950, H⟩ := H
                        replace H : (if t4076 < 0 then (some false) else (if t4076 = t4057 then (some true) else (some false))) = some r := H
                        have A95 := Aside0.mk A950
                        clear A950
                        by_cases c96 : t4076 < 0
                        · rw [if_pos c96] at H
                          have c96b0 : decide (t4076 < 0) = true := decide_eq_true c96
                          clear c96
                          exact absurd ((Option.some.inj H).trans HRT.out) (by decide)
                        · rw [if_neg c96] at H
                          have c96b0 : decide (t4076 < 0) = false := decide_eq_false c96
                          clear c96
                          by_cases c106 : t4076 = t4057
                          · rw [if_pos c106] at H
                            have c106b0 : (t4076 == t4057) = true := beq_iff_eq.mpr c106
                            have c106b1 : (t4076 != t4057) = false := bne_eq_false_iff_eq.mpr c106
                            clear c106
                            obtain rfl := Option.some.inj H
                            try go_wp2_with (first | ((with_reducible refine gate_callee (f := 18) rfl ?_); refine goesL_ (some 66) rfl rfl Try.func18 (by kernel_rfl) rfl #[.slice Ao66 t4034.length co66, .int .i64 1] rfl (by (try simp only [List.map_toArray, List.map_cons, List.map_nil]); first | done | rfl | (simp only [List.length_drop, List.length_take]; rfl)) ?_; (with_reducible refine (laws_markRunS.calls kj34 (fun k_ => some k_ = (.slice Ao66 t4034.length co66 : Value).ownBlock) (.slice Ao66 t4034.length co66) t4034 1 t4057 t4058 w _ ?side1 ?side2 A85.out).mono ?_); (case side1 => repeat (first | (with_reducible first | exact HB.out | apply below_alloc | apply pw_below_drewN | apply below_drew1 | refine below_set ?_ GE4001.out | refine below_set ?_ GE4002.out | refine below_set ?_ GE4026.out | refine below_set ?_ GE4033.out) | exact HB.out)); (case side2 => exact Kd.R_tight rfl HO_9.out); rintro e w107 ⟨rfl, hy0, hb, hkp⟩; refine ⟨_, rfl, ?_⟩; have n0_ := Aside0.mk (Kd.R_mono (ok' := fun k_ => some k_ ≠ (.slice Ao66 t4034.length co66 : Value).ownBlock) (Kd.R_keptB (HO_6.out) hkp (fun k_ hk_ hs_ => (hk_) hs_)) (fun k_ hk_ => hk_.1)); have n1_ := Aside0.mk (Kd.R_reok rfl hy0 (fun k_ e_ => HO_9.out.1 k_ e_)); have n2_ := Aside0.mk (Kd.R_mono (ok' := fun k_ => some k_ ≠ (.slice Ao63 t4055.length co63 : Value).ownBlock) (Kd.R_keptB ((Kd.R_apart' HO_4027003.out (Kd.R_typed HO_9.out) (by decide))) hkp (fun k_ hk_ hs_ => (hk_.2) hs_)) (fun k_ hk_ => hk_.1.1)); have n3_ := Aside0.mk (Kd.R_mono (ok' := fun k_ => some k_ ≠ (.slice Ao55 t4053.length co55 : Value).ownBlock) (Kd.R_keptB ((Kd.R_apart' HO_4034003.out (Kd.R_typed HO_9.out) (by decide))) hkp (fun k_ hk_ hs_ => (hk_.2) hs_)) (fun k_ hk_ => hk_.1.1)); have n4_ := Aside0.mk (blk_kept (by (with_reducible repeat (first | refine blk_drewN ?_ _ | refine blk_drew ?_ | refine blk_alloc ?_ _)); exact BK4001.out) hkp (fun hs_ => (fun e_ => (Kd.R_ne HO_9.out BK4001.out (by decide)) e_) hs_)); have n5_ := Aside0.mk (blk_kept (by (with_reducible repeat (first | refine blk_drewN ?_ _ | refine blk_drew ?_ | refine blk_alloc ?_ _)); exact BK4002.out) hkp (fun hs_ => (fun e_ => (Kd.R_ne HO_9.out BK4002.out (by decide)) e_) hs_)); have n6_ := Aside0.mk (blk_kept (by (with_reducible repeat (first | refine blk_drewN ?_ _ | refine blk_drew ?_ | refine blk_alloc ?_ _)); exact BK4026.out) hkp (fun hs_ => (fun e_ => (Kd.R_ne HO_9.out BK4026.out (by decide)) e_) hs_)); have n7_ := Aside0.mk (blk_kept (by (with_reducible repeat (first | refine blk_drewN ?_ _ | refine blk_drew ?_ | refine blk_alloc ?_ _)); exact BK4033.out) hkp (fun hs_ => (fun e_ => (Kd.R_ne HO_9.out BK4033.out (by decide)) e_) hs_)); have n8_ := Aside0.mk (hb); clear HO_6; clear HO_9; clear HO_4027003; clear HO_4034003; clear BK4001; clear BK4002; clear BK4026; clear BK4033; clear HB; have HO_6 := n0_; have HO_9 := n1_; have HO_4027003 := n2_; have HO_4034003 := n3_; have BK4001 := n4_; have BK4002 := n5_; have BK4026 := n6_; have BK4033 := n7_; have HB := n8_; clear n0_ n1_ n2_ n3_ n4_ n5_ n6_ n7_ n8_; (try clear hb); (try clear hkp); (try clear hy0)) | ((with_reducible refine gate_callee (f := 19) rfl ?_); refine goesL_ (some 69) rfl rfl Try.func19 (by kernel_rfl) rfl #[.slice Ao66 t4058.length co66, .int .i64 1] rfl (by (try simp only [List.map_toArray, List.map_cons, List.map_nil]); first | done | (rw [show t4058.length = t4034.length from (Kd.R_reads' HO_9.out).1.symm] <;> rfl) | rfl | (simp only [List.length_drop, List.length_take]; rfl)) ?_; (with_reducible refine (laws_heldRunS.calls kj34 _ _ t4058 1 t4059 _ ?side1 ?side2 A86.out).mono ?_); (case side1 => repeat (first | exact (Kd.R_reads' HO_9.out).2.2 | (with_reducible refine Kd.C_alloc ?_ _) | (with_reducible refine Kd.C_drewN ?_ _) | (with_reducible refine Kd.C_drew ?_))); (case side2 => rw [show t4058.length = t4034.length from (Kd.R_reads' HO_9.out).1.symm]; exact (Kd.R_reads' HO_9.out).2.1); rintro e w' ⟨rfl, ⟨nd, rfl⟩⟩; refine ⟨_, rfl, ?_⟩))
                            (try (rw [drewN_self w107]; generalize hq_ : World.drewN w107 _ = w107; have n0_ : Aside0 (Kd.R (Kd.int .i64) 3 w107 w.heap.size (fun k_ => some k_ ≠ (.slice Ao63 t4055.length co63 : Value).ownBlock) (.slice Ao55 t4053.length co55) t4053) := ⟨by rw [← hq_]; exact (by (with_reducible repeat (first | apply Kd.R_alloc | apply Kd.R_drewN | apply Kd.R_drew)); exact HO_4027003.out)⟩; have n1_ : Aside0 (Kd.R (Kd.int .i64) 3 w107 w.heap.size (fun k_ => some k_ ≠ (.slice Ao55 t4053.length co55 : Value).ownBlock) (.slice Ao63 t4055.length co63) t4055) := ⟨by rw [← hq_]; exact (by (with_reducible repeat (first | apply Kd.R_alloc | apply Kd.R_drewN | apply Kd.R_drew)); exact HO_4034003.out)⟩; have n2_ : Aside0 (Kd.R k47 47 w107 w.heap.size (fun k_ => some k_ ≠ (.slice Ao66 t4034.length co66 : Value).ownBlock) (.slice Ao67 t4017.length co67) t4017) := ⟨by rw [← hq_]; exact (by (with_reducible repeat (first | apply Kd.R_alloc | apply Kd.R_drewN | apply Kd.R_drew)); exact HO_6.out)⟩; have n3_ : Aside0 (Kd.R k47 47 w107 w.heap.size (fun k_ => some k_ ≠ (.slice Ao67 t4017.length co67 : Value).ownBlock) (.slice Ao66 t4034.length co66) t4058) := ⟨by rw [← hq_]; exact (by (with_reducible repeat (first | apply Kd.R_alloc | apply Kd.R_drewN | apply Kd.R_drew)); exact HO_9.out)⟩; have n4_ : Aside0 (w107.heap[gb4001]? = some (.cells #[.int .i64 a0_0, .int .i64 a0_1, .int .i64 a0_2, .slice A0_3 l0_3.length c0_3] 24 (0, 0))) := ⟨by rw [← hq_]; exact (by (with_reducible repeat (first | refine blk_drewN ?_ _ | refine blk_drew ?_ | refine blk_alloc ?_ _)); exact BK4001.out)⟩; have n5_ : Aside0 (w107.heap[gb4002]? = some (.cells #[.int .i64 a1_0, .int .i64 a1_1, .int .i64 a1_2, .slice A1_3 l1_3.length c1_3] 24 (0, 0))) := ⟨by rw [← hq_]; exact (by (with_reducible repeat (first | refine blk_drewN ?_ _ | refine blk_drew ?_ | refine blk_alloc ?_ _)); exact BK4002.out)⟩; have n6_ : Aside0 (w107.heap[gb4026]? = some (.cells #[.int .i64 t4020, .int .i64 t4021, .int .i64 t4022, .slice Ao55 t4053.length co55] 28 (0, 0))) := ⟨by rw [← hq_]; exact (by (with_reducible repeat (first | refine blk_drewN ?_ _ | refine blk_drew ?_ | refine blk_alloc ?_ _)); exact BK4026.out)⟩; have n7_ : Aside0 (w107.heap[gb4033]? = some (.cells #[.int .i64 t4027, .int .i64 t4028, .int .i64 t4029, .slice Ao63 t4055.length co63] 28 (0, 0))) := ⟨by rw [← hq_]; exact (by (with_reducible repeat (first | refine blk_drewN ?_ _ | refine blk_drew ?_ | refine blk_alloc ?_ _)); exact BK4033.out)⟩; have n8_ : Aside0 (Below w.heap.size w w107) := ⟨by rw [← hq_]; exact (by repeat (first | (with_reducible first | exact HB.out | apply below_alloc | apply pw_below_drewN | apply below_drew1 | refine below_set ?_ GE4001.out | refine below_set ?_ GE4002.out | refine below_set ?_ GE4026.out | refine below_set ?_ GE4033.out) | exact HB.out))⟩; clear HO_4027003 HO_4034003 HO_6 HO_9 BK4001 BK4002 BK4026 BK4033 HB hq_; have HO_4027003 := n0_; have HO_4034003 := n1_; have HO_6 := n2_; have HO_9 := n3_; have BK4001 := n4_; have BK4002 := n5_; have BK4026 := n6_; have BK4033 := n7_; have HB := n8_; clear n0_ n1_ n2_ n3_ n4_ n5_ n6_ n7_ n8_))
                            have n0_ := Aside0.mk (Kd.R_drew HO_6.out)
                            have n1_ := Aside0.mk (Kd.R_drew HO_9.out)
                            have n2_ := Aside0.mk (Kd.R_drew HO_4027003.out)
                            have n3_ := Aside0.mk (Kd.R_drew HO_4034003.out)
                            have n4_ := Aside0.mk (blk_drew BK4001.out)
                            have n5_ := Aside0.mk (blk_drew BK4002.out)
                            have n6_ := Aside0.mk (blk_drew BK4026.out)
                            have n7_ := Aside0.mk (blk_drew BK4033.out)
                            have n8_ := Aside0.mk (below_drew1 HB.out)
                            clear HO_6
                            clear HO_9
                            clear HO_4027003
                            clear HO_4034003
                            clear BK4001
                            clear BK4002
                            clear BK4026
                            clear BK4033
                            clear HB
                            have HO_6 := n0_
                            have HO_9 := n1_
                            have HO_4027003 := n2_
                            have HO_4034003 := n3_
                            have BK4001 := n4_
                            have BK4002 := n5_
                            have BK4026 := n6_
                            have BK4033 := n7_
                            have HB := n8_
                            clear n0_ n1_ n2_ n3_ n4_ n5_ n6_ n7_ n8_
                            refine start_ (n := 6) (S := fun w' => w'.cell? ⟨gb4001, 0, none⟩ = some (.int .i64 a0_0) ∧ w'.cell? ⟨gb4001, 1, none⟩ = some (.int .i64 a0_1) ∧ w'.cell? ⟨gb4001, 2, none⟩ = some (.int .i64 a0_2) ∧ w'.cell? ⟨gb4001, 3, none⟩ = some (.slice A0_3 l0_3.length c0_3) ∧ w'.cell? ⟨gb4002, 0, none⟩ = some (.int .i64 a1_0) ∧ w'.cell? ⟨gb4002, 1, none⟩ = some (.int .i64 a1_1) ∧ w'.cell? ⟨gb4002, 2, none⟩ = some (.int .i64 a1_2) ∧ w'.cell? ⟨gb4002, 3, none⟩ = some (.slice A1_3 l1_3.length c1_3)) (ds := []) #[false, false, false, false, false, false] (by kernel_rfl) rfl rfl ⟨(blk_cell BK4001.out 0).trans rfl, (blk_cell BK4001.out 1).trans rfl, (blk_cell BK4001.out 2).trans rfl, (blk_cell BK4001.out 3).trans rfl, (blk_cell BK4002.out 0).trans rfl, (blk_cell BK4002.out 1).trans rfl, (blk_cell BK4002.out 2).trans rfl, (blk_cell BK4002.out 3).trans rfl⟩ (fun hHeld => ?_)
                            generalize w107.drew = w108 at HO_6 HO_9 HO_4027003 HO_4034003 BK4001 BK4002 BK4026 BK4033 HB hHeld ⊢
                            refine take_ (i := 0) (N := some 75) (v := ?_) (a' := ?_) #[true, false, false, false, false, false] rfl rfl (by kernel_rfl) (fun _ _ _ h => h) (Or.inl ⟨by rfl, ?_⟩) hHeld ?_ ?_
                            rotate_left
                            · rintro w' ⟨s0, s1, s2, s3, s4, s5, s6, s7⟩
                              go_simp
                              with_reducible rfl
                            rotate_left
                            · simp only [Act.put, List.setIfInBounds_toArray, List.set_cons_zero, List.set_cons_succ, i64_w, i32_w]
                              rfl
                            refine take_ (i := 2) (N := some 77) (v := ?_) (a' := ?_) #[true, false, true, false, false, false] rfl rfl (by kernel_rfl) (fun _ _ _ h => h) (Or.inl ⟨by rfl, ?_⟩) hHeld ?_ ?_
                            rotate_left
                            · rintro w' ⟨s0, s1, s2, s3, s4, s5, s6, s7⟩
                              go_simp
                              with_reducible rfl
                            rotate_left
                            · simp only [Act.put, List.setIfInBounds_toArray, List.set_cons_zero, List.set_cons_succ, i64_w, i32_w]
                              rfl
                            refine one_ (i := 1) (N := some 76) #[true, true, true, false, false, false] rfl rfl (by kernel_rfl) (by decide) (fun K hK => ?_)
                            refine goes_ Try.func13 (by kernel_rfl) rfl #[.agg #[.int .i64 a0_0, .int .i64 a0_1, .int .i64 a0_2, .slice A0_3 l0_3.length c0_3]] (by rfl) rfl rfl (by (try simp only [List.map_toArray, List.map_cons, List.map_nil]); first | done | rfl | (simp only [List.length_drop, List.length_take]; rfl)) ?_
                            with_reducible refine (laws_toImage.calls kj34 a0_0 a0_1 a0_2 _ _ l0_3 t4060 t4061 t4062 t4063 _ ?side1 ?side2 A90.out).mono ?_
                            (case side1 => repeat (first | exact (Kd.C_below HR0_3.out HB.out) | (with_reducible refine Kd.C_alloc ?_ _) | (with_reducible refine Kd.C_drewN ?_ _) | (with_reducible refine Kd.C_drew ?_)))
                            (case side2 => exact HC0_3.out)
                            rintro e w109 ⟨v4064, rfl, ho0, hb⟩
                            refine ⟨_, rfl, ?_⟩
                            have n0_ := Aside0.mk (Kd.R_below (by (with_reducible repeat (first | apply Kd.R_alloc | apply Kd.R_drewN | apply Kd.R_drew)); exact HO_6.out) hb)
                            have n1_ := Aside0.mk (Kd.R_below (by (with_reducible repeat (first | apply Kd.R_alloc | apply Kd.R_drewN | apply Kd.R_drew)); exact HO_9.out) hb)
                            have n2_ := Aside0.mk (Kd.R_elder' (by (with_reducible repeat (first | apply Kd.R_alloc | apply Kd.R_drewN | apply Kd.R_drew)); exact HO_4027003.out) (Kd.R_base ho0) hb)
                            have n3_ := Aside0.mk (Kd.R_elder' (by (with_reducible repeat (first | apply Kd.R_alloc | apply Kd.R_drewN | apply Kd.R_drew)); exact HO_4034003.out) (Kd.R_base ho0) hb)
                            have n4_ := Aside0.mk (Kd.R_lower (Kd.R_new' (Kd.R_new' ho0 (Kd.R_lt (by (with_reducible repeat (first | apply Kd.R_alloc | apply Kd.R_drewN | apply Kd.R_drew)); exact HO_4027003.out))) (Kd.R_lt (by (with_reducible repeat (first | apply Kd.R_alloc | apply Kd.R_drewN | apply Kd.R_drew)); exact HO_4034003.out))) (below_size (by repeat (first | (with_reducible first | exact HB.out | apply below_alloc | apply pw_below_drewN | apply below_drew1 | refine below_set ?_ GE4001.out | refine below_set ?_ GE4002.out | refine below_set ?_ GE4026.out | refine below_set ?_ GE4033.out) | exact HB.out))))
                            have n5_ := Aside0.mk (blk_below (g := gb4001) (o := .cells #[.int .i64 a0_0, .int .i64 a0_1, .int .i64 a0_2, .slice A0_3 l0_3.length c0_3] 24 (0, 0)) (by (with_reducible repeat (first | refine blk_drewN ?_ _ | refine blk_drew ?_ | refine blk_alloc ?_ _)); exact BK4001.out) hb)
                            have n6_ := Aside0.mk (blk_below (g := gb4002) (o := .cells #[.int .i64 a1_0, .int .i64 a1_1, .int .i64 a1_2, .slice A1_3 l1_3.length c1_3] 24 (0, 0)) (by (with_reducible repeat (first | refine blk_drewN ?_ _ | refine blk_drew ?_ | refine blk_alloc ?_ _)); exact BK4002.out) hb)
                            have n7_ := Aside0.mk (blk_below (g := gb4026) (o := .cells #[.int .i64 t4020, .int .i64 t4021, .int .i64 t4022, .slice Ao55 t4053.length co55] 28 (0, 0)) (by (with_reducible repeat (first | refine blk_drewN ?_ _ | refine blk_drew ?_ | refine blk_alloc ?_ _)); exact BK4026.out) hb)
                            have n8_ := Aside0.mk (blk_below (g := gb4033) (o := .cells #[.int .i64 t4027, .int .i64 t4028, .int .i64 t4029, .slice Ao63 t4055.length co63] 28 (0, 0)) (by (with_reducible repeat (first | refine blk_drewN ?_ _ | refine blk_drew ?_ | refine blk_alloc ?_ _)); exact BK4033.out) hb)
                            have n9_ := Aside0.mk (below_step (by repeat (first | (with_reducible first | exact HB.out | apply below_alloc | apply pw_below_drewN | apply below_drew1 | refine below_set ?_ GE4001.out | refine below_set ?_ GE4002.out | refine below_set ?_ GE4026.out | refine below_set ?_ GE4033.out) | exact HB.out)) hb)
                            clear HO_6
                            clear HO_9
                            clear HO_4027003
                            clear HO_4034003
                            clear BK4001
                            clear BK4002
                            clear BK4026
                            clear BK4033
                            clear HB
                            have HO_6 := n0_
                            have HO_9 := n1_
                            have HO_4027003 := n2_
                            have HO_4034003 := n3_
                            have HO4065 := n4_
                            have BK4001 := n5_
                            have BK4002 := n6_
                            have BK4026 := n7_
                            have BK4033 := n8_
                            have HB := n9_
                            clear n0_ n1_ n2_ n3_ n4_ n5_ n6_ n7_ n8_ n9_
                            (try clear hb)
                            (try clear hb2)
                            (try clear hk)
                            (try clear hi)
                            (try clear ho0)
                            refine hK.out _ _ ⟨(blk_cell BK4001.out 0).trans rfl, (blk_cell BK4001.out 1).trans rfl, (blk_cell BK4001.out 2).trans rfl, (blk_cell BK4001.out 3).trans rfl, (blk_cell BK4002.out 0).trans rfl, (blk_cell BK4002.out 1).trans rfl, (blk_cell BK4002.out 2).trans rfl, (blk_cell BK4002.out 3).trans rfl⟩ (fun hHeld => ?_)
                            clear hK K
                            refine norm_ (a' := ?_) ?_ ?_
                            rotate_left
                            · show Act.put _ (some 76) _ = _
                              simp only [Act.put, List.setIfInBounds_toArray, List.set_cons_zero, List.set_cons_succ, i64_w, i32_w]
                              rfl
                            refine one_ (i := 3) (N := some 78) #[true, true, true, true, false, false] rfl rfl (by kernel_rfl) (by decide) (fun K hK => ?_)
                            refine goes_ Try.func13 (by kernel_rfl) rfl #[.agg #[.int .i64 a1_0, .int .i64 a1_1, .int .i64 a1_2, .slice A1_3 l1_3.length c1_3]] (by rfl) rfl rfl (by (try simp only [List.map_toArray, List.map_cons, List.map_nil]); first | done | rfl | (simp only [List.length_drop, List.length_take]; rfl)) ?_
                            with_reducible refine (laws_toImage.calls kj34 a1_0 a1_1 a1_2 _ _ l1_3 t4066 t4067 t4068 t4069 _ ?side1 ?side2 A91.out).mono ?_
                            (case side1 => repeat (first | exact (Kd.C_below HR1_3.out HB.out) | (with_reducible refine Kd.C_alloc ?_ _) | (with_reducible refine Kd.C_drewN ?_ _) | (with_reducible refine Kd.C_drew ?_)))
                            (case side2 => exact HC1_3.out)
                            rintro e w110 ⟨v4070, rfl, ho0, hb⟩
                            refine ⟨_, rfl, ?_⟩
                            have n0_ := Aside0.mk (Kd.R_below (by (with_reducible repeat (first | apply Kd.R_alloc | apply Kd.R_drewN | apply Kd.R_drew)); exact HO_6.out) hb)
                            have n1_ := Aside0.mk (Kd.R_below (by (with_reducible repeat (first | apply Kd.R_alloc | apply Kd.R_drewN | apply Kd.R_drew)); exact HO_9.out) hb)
                            have n2_ := Aside0.mk (Kd.R_elder' (by (with_reducible repeat (first | apply Kd.R_alloc | apply Kd.R_drewN | apply Kd.R_drew)); exact HO_4027003.out) (Kd.R_base ho0) hb)
                            have n3_ := Aside0.mk (Kd.R_elder' (by (with_reducible repeat (first | apply Kd.R_alloc | apply Kd.R_drewN | apply Kd.R_drew)); exact HO_4034003.out) (Kd.R_base ho0) hb)
                            have n4_ := Aside0.mk (Kd.R_elder' (by (with_reducible repeat (first | apply Kd.R_alloc | apply Kd.R_drewN | apply Kd.R_drew)); exact HO4065.out) (Kd.R_base ho0) hb)
                            have n5_ := Aside0.mk (Kd.R_lower (Kd.R_new' (Kd.R_new' (Kd.R_new' ho0 (Kd.R_lt (by (with_reducible repeat (first | apply Kd.R_alloc | apply Kd.R_drewN | apply Kd.R_drew)); exact HO_4027003.out))) (Kd.R_lt (by (with_reducible repeat (first | apply Kd.R_alloc | apply Kd.R_drewN | apply Kd.R_drew)); exact HO_4034003.out))) (Kd.R_lt (by (with_reducible repeat (first | apply Kd.R_alloc | apply Kd.R_drewN | apply Kd.R_drew)); exact HO4065.out))) (below_size (by repeat (first | (with_reducible first | exact HB.out | apply below_alloc | apply pw_below_drewN | apply below_drew1 | refine below_set ?_ GE4001.out | refine below_set ?_ GE4002.out | refine below_set ?_ GE4026.out | refine below_set ?_ GE4033.out) | exact HB.out))))
                            have n6_ := Aside0.mk (blk_below (g := gb4001) (o := .cells #[.int .i64 a0_0, .int .i64 a0_1, .int .i64 a0_2, .slice A0_3 l0_3.length c0_3] 24 (0, 0)) (by (with_reducible repeat (first | refine blk_drewN ?_ _ | refine blk_drew ?_ | refine blk_alloc ?_ _)); exact BK4001.out) hb)
                            have n7_ := Aside0.mk (blk_below (g := gb4002) (o := .cells #[.int .i64 a1_0, .int .i64 a1_1, .int .i64 a1_2, .slice A1_3 l1_3.length c1_3] 24 (0, 0)) (by (with_reducible repeat (first | refine blk_drewN ?_ _ | refine blk_drew ?_ | refine blk_alloc ?_ _)); exact BK4002.out) hb)
                            have n8_ := Aside0.mk (blk_below (g := gb4026) (o := .cells #[.int .i64 t4020, .int .i64 t4021, .int .i64 t4022, .slice Ao55 t4053.length co55] 28 (0, 0)) (by (with_reducible repeat (first | refine blk_drewN ?_ _ | refine blk_drew ?_ | refine blk_alloc ?_ _)); exact BK4026.out) hb)
                            have n9_ := Aside0.mk (blk_below (g := gb4033) (o := .cells #[.int .i64 t4027, .int .i64 t4028, .int .i64 t4029, .slice Ao63 t4055.length co63] 28 (0, 0)) (by (with_reducible repeat (first | refine blk_drewN ?_ _ | refine blk_drew ?_ | refine blk_alloc ?_ _)); exact BK4033.out) hb)
                            have n10_ := Aside0.mk (below_step (by repeat (first | (with_reducible first | exact HB.out | apply below_alloc | apply pw_below_drewN | apply below_drew1 | refine below_set ?_ GE4001.out | refine below_set ?_ GE4002.out | refine below_set ?_ GE4026.out | refine below_set ?_ GE4033.out) | exact HB.out)) hb)
                            clear HO_6
                            clear HO_9
                            clear HO_4027003
                            clear HO_4034003
                            clear HO4065
                            clear BK4001
                            clear BK4002
                            clear BK4026
                            clear BK4033
                            clear HB
                            have HO_6 := n0_
                            have HO_9 := n1_
                            have HO_4027003 := n2_
                            have HO_4034003 := n3_
                            have HO4065 := n4_
                            have HO4071 := n5_
                            have BK4001 := n6_
                            have BK4002 := n7_
                            have BK4026 := n8_
                            have BK4033 := n9_
                            have HB := n10_
                            clear n0_ n1_ n2_ n3_ n4_ n5_ n6_ n7_ n8_ n9_ n10_
                            (try clear hb)
                            (try clear hb2)
                            (try clear hk)
                            (try clear hi)
                            (try clear ho0)
                            obtain ⟨Ao111, co111, eo111⟩ := Kd.R_slice HO4065.out
                            (first | subst eo111 | (injection eo111 with f1_ f2_ f3_; have f4_ := f1_.symm; have f5_ := f3_.symm; clear f1_ f2_ f3_; subst f4_; subst f5_))
                            obtain ⟨Ao112, co112, eo112⟩ := Kd.R_slice HO4071.out
                            (first | subst eo112 | (injection eo112 with f1_ f2_ f3_; have f4_ := f1_.symm; have f5_ := f3_.symm; clear f1_ f2_ f3_; subst f4_; subst f5_))
                            refine hK.out _ _ ⟨(blk_cell BK4001.out 0).trans rfl, (blk_cell BK4001.out 1).trans rfl, (blk_cell BK4001.out 2).trans rfl, (blk_cell BK4001.out 3).trans rfl, (blk_cell BK4002.out 0).trans rfl, (blk_cell BK4002.out 1).trans rfl, (blk_cell BK4002.out 2).trans rfl, (blk_cell BK4002.out 3).trans rfl⟩ (fun hHeld => ?_)
                            clear hK K
                            refine norm_ (a' := ?_) ?_ ?_
                            rotate_left
                            · show Act.put _ (some 78) _ = _
                              simp only [Act.put, List.setIfInBounds_toArray, List.set_cons_zero, List.set_cons_succ, i64_w, i32_w]
                              rfl
                            refine one_ (i := 4) (N := some 79) #[true, true, true, true, true, false] rfl rfl (by kernel_rfl) (by decide) (fun K hK => ?_)
                            refine goes_ Try.func14 (by kernel_rfl) rfl #[.agg #[.int .i64 t4060, .int .i64 t4061, .int .i64 t4062, .slice Ao111 t4063.length co111], .agg #[.int .i64 t4066, .int .i64 t4067, .int .i64 t4068, .slice Ao112 t4069.length co112]] (by rfl) rfl rfl (by (try simp only [List.map_toArray, List.map_cons, List.map_nil]); first | done | rfl | (simp only [List.length_drop, List.length_take]; rfl)) ?_
                            with_reducible refine (impl_ChangedRegion.calls t4060 t4061 t4062 _ _ t4063 t4066 t4067 t4068 _ _ t4069 t4072 _ ?side1 ?side2 ?side3 ?side4 A92.out).mono ?_
                            (case side1 => repeat (first | exact (Kd.R_reads' HO4065.out).2.2 | (with_reducible refine Kd.C_alloc ?_ _) | (with_reducible refine Kd.C_drewN ?_ _) | (with_reducible refine Kd.C_drew ?_)))
                            (case side2 => exact (Kd.R_reads' HO4065.out).2.1)
                            (case side3 => repeat (first | exact (Kd.R_reads' HO4071.out).2.2 | (with_reducible refine Kd.C_alloc ?_ _) | (with_reducible refine Kd.C_drewN ?_ _) | (with_reducible refine Kd.C_drew ?_)))
                            (case side4 => exact (Kd.R_reads' HO4071.out).2.1)
                            rintro e w113 ⟨v4073, rfl, ho0, hb⟩
                            refine ⟨_, rfl, ?_⟩
                            have n0_ := Aside0.mk (Kd.R_elder' (by (with_reducible repeat (first | apply Kd.R_alloc | apply Kd.R_drewN | apply Kd.R_drew)); exact HO_6.out) (Kd.R_base ho0) hb)
                            have n1_ := Aside0.mk (Kd.R_elder' (by (with_reducible repeat (first | apply Kd.R_alloc | apply Kd.R_drewN | apply Kd.R_drew)); exact HO_9.out) (Kd.R_base ho0) hb)
                            have n2_ := Aside0.mk (Kd.R_below (by (with_reducible repeat (first | apply Kd.R_alloc | apply Kd.R_drewN | apply Kd.R_drew)); exact HO_4027003.out) hb)
                            have n3_ := Aside0.mk (Kd.R_below (by (with_reducible repeat (first | apply Kd.R_alloc | apply Kd.R_drewN | apply Kd.R_drew)); exact HO_4034003.out) hb)
                            have n4_ := Aside0.mk (Kd.R_below (by (with_reducible repeat (first | apply Kd.R_alloc | apply Kd.R_drewN | apply Kd.R_drew)); exact HO4065.out) hb)
                            have n5_ := Aside0.mk (Kd.R_below (by (with_reducible repeat (first | apply Kd.R_alloc | apply Kd.R_drewN | apply Kd.R_drew)); exact HO4071.out) hb)
                            have n6_ := Aside0.mk (Kd.R_lower (Kd.R_new' (Kd.R_new' ho0 (Kd.R_lt (by (with_reducible repeat (first | apply Kd.R_alloc | apply Kd.R_drewN | apply Kd.R_drew)); exact HO_6.out))) (Kd.R_lt (by (with_reducible repeat (first | apply Kd.R_alloc | apply Kd.R_drewN | apply Kd.R_drew)); exact HO_9.out))) (below_size (by repeat (first | (with_reducible first | exact HB.out | apply below_alloc | apply pw_below_drewN | apply below_drew1 | refine below_set ?_ GE4001.out | refine below_set ?_ GE4002.out | refine below_set ?_ GE4026.out | refine below_set ?_ GE4033.out) | exact HB.out))))
                            have n7_ := Aside0.mk (blk_below (g := gb4001) (o := .cells #[.int .i64 a0_0, .int .i64 a0_1, .int .i64 a0_2, .slice A0_3 l0_3.length c0_3] 24 (0, 0)) (by (with_reducible repeat (first | refine blk_drewN ?_ _ | refine blk_drew ?_ | refine blk_alloc ?_ _)); exact BK4001.out) hb)
                            have n8_ := Aside0.mk (blk_below (g := gb4002) (o := .cells #[.int .i64 a1_0, .int .i64 a1_1, .int .i64 a1_2, .slice A1_3 l1_3.length c1_3] 24 (0, 0)) (by (with_reducible repeat (first | refine blk_drewN ?_ _ | refine blk_drew ?_ | refine blk_alloc ?_ _)); exact BK4002.out) hb)
                            have n9_ := Aside0.mk (blk_below (g := gb4026) (o := .cells #[.int .i64 t4020, .int .i64 t4021, .int .i64 t4022, .slice Ao55 t4053.length co55] 28 (0, 0)) (by (with_reducible repeat (first | refine blk_drewN ?_ _ | refine blk_drew ?_ | refine blk_alloc ?_ _)); exact BK4026.out) hb)
                            have n10_ := Aside0.mk (blk_below (g := gb4033) (o := .cells #[.int .i64 t4027, .int .i64 t4028, .int .i64 t4029, .slice Ao63 t4055.length co63] 28 (0, 0)) (by (with_reducible repeat (first | refine blk_drewN ?_ _ | refine blk_drew ?_ | refine blk_alloc ?_ _)); exact BK4033.out) hb)
                            have n11_ := Aside0.mk (below_step (by repeat (first | (with_reducible first | exact HB.out | apply below_alloc | apply pw_below_drewN | apply below_drew1 | refine below_set ?_ GE4001.out | refine below_set ?_ GE4002.out | refine below_set ?_ GE4026.out | refine below_set ?_ GE4033.out) | exact HB.out)) hb)
                            clear HO_6
                            clear HO_9
                            clear HO_4027003
                            clear HO_4034003
                            clear HO4065
                            clear HO4071
                            clear BK4001
                            clear BK4002
                            clear BK4026
                            clear BK4033
                            clear HB
                            have HO_6 := n0_
                            have HO_9 := n1_
                            have HO_4027003 := n2_
                            have HO_4034003 := n3_
                            have HO4065 := n4_
                            have HO4071 := n5_
                            have HO4074 := n6_
                            have BK4001 := n7_
                            have BK4002 := n8_
                            have BK4026 := n9_
                            have BK4033 := n10_
                            have HB := n11_
                            clear n0_ n1_ n2_ n3_ n4_ n5_ n6_ n7_ n8_ n9_ n10_ n11_
                            (try clear hb)
                            (try clear hb2)
                            (try clear hk)
                            (try clear hi)
                            (try clear ho0)
                            refine hK.out _ _ ⟨(blk_cell BK4001.out 0).trans rfl, (blk_cell BK4001.out 1).trans rfl, (blk_cell BK4001.out 2).trans rfl, (blk_cell BK4001.out 3).trans rfl, (blk_cell BK4002.out 0).trans rfl, (blk_cell BK4002.out 1).trans rfl, (blk_cell BK4002.out 2).trans rfl, (blk_cell BK4002.out 3).trans rfl⟩ (fun hHeld => ?_)
                            clear hK K
                            refine norm_ (a' := ?_) ?_ ?_
                            rotate_left
                            · show Act.put _ (some 79) _ = _
                              simp only [Act.put, List.setIfInBounds_toArray, List.set_cons_zero, List.set_cons_succ, i64_w, i32_w]
                              rfl
                            refine pure_ (i := 5) (N := some 13) (v := ?_) (a' := ?_) #[true, true, true, true, true, true] rfl rfl (by kernel_rfl) (fun _ _ _ h => h) (Or.inl ⟨by rfl, ?_⟩) ?_ ?_
                            rotate_left
                            · intro w'
                              go_simp
                              with_reducible rfl
                            rotate_left
                            · simp only [Act.put, List.setIfInBounds_toArray, List.set_cons_zero, List.set_cons_succ, i64_w, i32_w]
                              rfl
                            refine done_ (by kernel_rfl) ?_
                            obtain ⟨Ao114, co114, eo114⟩ := Kd.R_slice HO4074.out
                            subst eo114
                            try go_wp2_with (first | ((with_reducible refine gate_callee (f := 15) rfl ?_); refine goesL_ (some 82) rfl rfl Try.func15 (by kernel_rfl) rfl #[.slice Ao114 t4072.length co114, .slice Ao67 t4017.length co67] rfl (by (try simp only [List.map_toArray, List.map_cons, List.map_nil]); first | done | rfl | (simp only [List.length_drop, List.length_take]; rfl)) ?_; (with_reducible refine (laws_eqRunS.calls kj34 _ _ t4072 _ _ t4017 true _ ?side1 ?side2 ?side3 ?side4 A93.out).mono ?_); (case side1 => repeat (first | exact (Kd.R_reads' HO4074.out).2.2 | (with_reducible refine Kd.C_alloc ?_ _) | (with_reducible refine Kd.C_drewN ?_ _) | (with_reducible refine Kd.C_drew ?_))); (case side2 => exact (Kd.R_reads' HO4074.out).2.1); (case side3 => repeat (first | exact (Kd.R_reads' HO_6.out).2.2 | (with_reducible refine Kd.C_alloc ?_ _) | (with_reducible refine Kd.C_drewN ?_ _) | (with_reducible refine Kd.C_drew ?_))); (case side4 => exact (Kd.R_reads' HO_6.out).2.1); rintro e w115 ⟨rfl, hb⟩; refine ⟨_, rfl, ?_⟩; have n0_ := Aside0.mk (Kd.R_below (by (with_reducible repeat (first | apply Kd.R_alloc | apply Kd.R_drewN | apply Kd.R_drew)); exact HO_6.out) hb); have n1_ := Aside0.mk (Kd.R_below (by (with_reducible repeat (first | apply Kd.R_alloc | apply Kd.R_drewN | apply Kd.R_drew)); exact HO_9.out) hb); have n2_ := Aside0.mk (Kd.R_below (by (with_reducible repeat (first | apply Kd.R_alloc | apply Kd.R_drewN | apply Kd.R_drew)); exact HO_4027003.out) hb); have n3_ := Aside0.mk (Kd.R_below (by (with_reducible repeat (first | apply Kd.R_alloc | apply Kd.R_drewN | apply Kd.R_drew)); exact HO_4034003.out) hb); have n4_ := Aside0.mk (Kd.R_below (by (with_reducible repeat (first | apply Kd.R_alloc | apply Kd.R_drewN | apply Kd.R_drew)); exact HO4065.out) hb); have n5_ := Aside0.mk (Kd.R_below (by (with_reducible repeat (first | apply Kd.R_alloc | apply Kd.R_drewN | apply Kd.R_drew)); exact HO4071.out) hb); have n6_ := Aside0.mk (Kd.R_below (by (with_reducible repeat (first | apply Kd.R_alloc | apply Kd.R_drewN | apply Kd.R_drew)); exact HO4074.out) hb); have n7_ := Aside0.mk (blk_below (g := gb4001) (o := .cells #[.int .i64 a0_0, .int .i64 a0_1, .int .i64 a0_2, .slice A0_3 l0_3.length c0_3] 24 (0, 0)) (by (with_reducible repeat (first | refine blk_drewN ?_ _ | refine blk_drew ?_ | refine blk_alloc ?_ _)); exact BK4001.out) hb); have n8_ := Aside0.mk (blk_below (g := gb4002) (o := .cells #[.int .i64 a1_0, .int .i64 a1_1, .int .i64 a1_2, .slice A1_3 l1_3.length c1_3] 24 (0, 0)) (by (with_reducible repeat (first | refine blk_drewN ?_ _ | refine blk_drew ?_ | refine blk_alloc ?_ _)); exact BK4002.out) hb); have n9_ := Aside0.mk (blk_below (g := gb4026) (o := .cells #[.int .i64 t4020, .int .i64 t4021, .int .i64 t4022, .slice Ao55 t4053.length co55] 28 (0, 0)) (by (with_reducible repeat (first | refine blk_drewN ?_ _ | refine blk_drew ?_ | refine blk_alloc ?_ _)); exact BK4026.out) hb); have n10_ := Aside0.mk (blk_below (g := gb4033) (o := .cells #[.int .i64 t4027, .int .i64 t4028, .int .i64 t4029, .slice Ao63 t4055.length co63] 28 (0, 0)) (by (with_reducible repeat (first | refine blk_drewN ?_ _ | refine blk_drew ?_ | refine blk_alloc ?_ _)); exact BK4033.out) hb); have n11_ := Aside0.mk (below_step (by repeat (first | (with_reducible first | exact HB.out | apply below_alloc | apply pw_below_drewN | apply below_drew1 | refine below_set ?_ GE4001.out | refine below_set ?_ GE4002.out | refine below_set ?_ GE4026.out | refine below_set ?_ GE4033.out) | exact HB.out)) hb); clear HO_6; clear HO_9; clear HO_4027003; clear HO_4034003; clear HO4065; clear HO4071; clear HO4074; clear BK4001; clear BK4002; clear BK4026; clear BK4033; clear HB; have HO_6 := n0_; have HO_9 := n1_; have HO_4027003 := n2_; have HO_4034003 := n3_; have HO4065 := n4_; have HO4071 := n5_; have HO4074 := n6_; have BK4001 := n7_; have BK4002 := n8_; have BK4026 := n9_; have BK4033 := n10_; have HB := n11_; clear n0_ n1_ n2_ n3_ n4_ n5_ n6_ n7_ n8_ n9_ n10_ n11_; (try clear hb); (try clear hb2); (try clear hk); (try clear hi)) | ((with_reducible refine gate_callee (f := 19) rfl ?_); refine goesL_ (some 86) rfl rfl Try.func19 (by kernel_rfl) rfl #[.slice Ao66 t4058.length co66, .int .i64 1] rfl (by (try simp only [List.map_toArray, List.map_cons, List.map_nil]); first | done | (rw [show t4058.length = t4034.length from (Kd.R_reads' HO_9.out).1.symm] <;> rfl) | rfl | (simp only [List.length_drop, List.length_take]; rfl)) ?_; (with_reducible refine (laws_heldRunS.calls kj34 _ _ t4058 1 t4076 _ ?side1 ?side2 A95.out).mono ?_); (case side1 => repeat (first | exact (Kd.R_reads' HO_9.out).2.2 | (with_reducible refine Kd.C_alloc ?_ _) | (with_reducible refine Kd.C_drewN ?_ _) | (with_reducible refine Kd.C_drew ?_))); (case side2 => rw [show t4058.length = t4034.length from (Kd.R_reads' HO_9.out).1.symm]; exact (Kd.R_reads' HO_9.out).2.1); rintro e w' ⟨rfl, ⟨nd, rfl⟩⟩; refine ⟨_, rfl, ?_⟩))
                            go_ret
                            exact ⟨by first | rfl | (simp [errW_none, errW_some] <;> rfl) | (simp [*, errW_none, errW_some] <;> rfl), by repeat (first | (with_reducible first | exact HB.out | apply below_alloc | apply pw_below_drewN | apply below_drew1 | refine below_set ?_ GE4001.out | refine below_set ?_ GE4002.out | refine below_set ?_ GE4026.out | refine below_set ?_ GE4033.out) | exact HB.out)⟩
                          · rw [if_neg c106] at H
                            have c106b0 : (t4076 == t4057) = false := beq_eq_false_iff_ne.mpr c106
                            have c106b1 : (t4076 != t4057) = true := bne_iff_ne.mpr c106
                            exact absurd ((Option.some.inj H).trans HRT.out) (by decide)
                      · replace c94 := Bool.eq_false_iff.mpr c94
                        subst c94
                        have H1 : (some false) = some r := by rw [if_neg (show ¬ (false = true) by decide)] at H; exact H
                        clear H
                        have H := H1
                        clear H1
                        exact absurd ((Option.some.inj H).trans HRT.out) (by decide)
                    · rw [if_neg c89] at H
                      have c89b0 : (t4059 == t4057) = false := beq_eq_false_iff_ne.mpr c89
                      have c89b1 : (t4059 != t4057) = true := bne_iff_ne.mpr c89
                      exact absurd ((Option.some.inj H).trans HRT.out) (by decide)
          · replace c32 := Bool.eq_false_iff.mpr c32
            subst c32
            have H1 : (some false) = some r := by rw [if_neg (show ¬ (false = true) by decide)] at H; exact H
            clear H
            have H := H1
            clear H1
            exact absurd ((Option.some.inj H).trans HRT.out) (by decide)
        · replace c29 := Bool.eq_false_iff.mpr c29
          subst c29
          have H1 : (some false) = some r := by rw [if_neg (show ¬ (false = true) by decide)] at H; exact H
          clear H
          have H := H1
          clear H1
          exact absurd ((Option.some.inj H).trans HRT.out) (by decide)
      · replace c26 := Bool.eq_false_iff.mpr c26
        subst c26
        have H1 : (some false) = some r := by rw [if_neg (show ¬ (false = true) by decide)] at H; exact H
        clear H
        have H := H1
        clear H1
        exact absurd ((Option.some.inj H).trans HRT.out) (by decide)

end Go.Proofs.Ytbgohbinonkhfaa.Q

/- What an argument's reading as data tells: numbers, bools, slices and structs of them, by their kinds. -/
namespace Go.Proofs.Ytbgohbinonkhfaa.Q
open Go.RowKit Go.Proofs.YtbgohbinonkhfaaW.PrintWords Go.Proofs.YtbgohbinonkhfaaW.PrintLast Go.Proofs.YtbgohbinonkhfaaW.PrintMore
attribute [local go_sem] max2_int min2_int max_two min_two max_three min_three max_four min_four
set_option linter.unusedVariables false
set_option linter.unusedSimpArgs false
open Go.ChangeShapes Go.WideShapes Go.Deep

/-- A number of 64 bits. -/
def I64 (n : Int) : Prop := -9223372036854775808 ≤ n ∧ n ≤ 9223372036854775807
theorem i64_of (n : Int) (h : (Lit.int .i64 n).wf = true) : I64 n := by
  simp only [Lit.wf, Bool.and_eq_true, decide_eq_true_eq] at h
  have e1 : IntKind.min .i64 = -9223372036854775808 := by decide
  have e2 : IntKind.max .i64 = 9223372036854775807 := by decide
  unfold I64
  omega
/-- Whatever reads at type t as data is a y of this kind, of which Q holds. -/
def Opens {α : Type} (P : Program) (t : TypeId) (d : Kd α) (Q : α → Prop) : Prop :=
  ∀ (H : Type) (enc : TypeId × Value → H) (w : World) (fuel : Nat) (cs : List Value) (x : DataW H × List MemPlace),
    DataW.trod enc P w 0 (fun _ => true) true fuel t cs = some x → ∃ y : α, d.K w y cs ∧ Q y
section
variable {P : Program} {t : TypeId} {α β : Type}
theorem opens_i64 (ht : P.underlying t = some (.int .i64)) : Opens P t (Kd.int .i64) I64 := by
  intro H enc w fuel cs x h
  obtain ⟨n, rfl, _, hw⟩ := DataW.trod_int ht h
  exact ⟨n, rfl, i64_of n hw⟩
theorem opens_bool (ht : P.underlying t = some .bool) : Opens P t Kd.bool (fun _ => True) := by
  intro H enc w fuel cs x h
  obtain ⟨b, rfl, _⟩ := DataW.trod_bool ht h
  exact ⟨b, rfl, trivial⟩
theorem opens_slice {e : TypeId} {d : Kd α} {Q : α → Prop} (ht : P.underlying t = some (.slice e)) (hc : P.cellsOf e = d.sz) (ho : Opens P e d Q) :
    Opens P t (Kd.slice e d) (fun l => ∀ x ∈ l, Q x) := by
  intro H enc w fuel cs x h
  rcases open_slice ht h with ⟨rfl, _⟩ | ⟨a, len, cap, m, n, D, Pl, rfl, _, hl, hm, hmm, _, hi⟩
  · exact ⟨[], ⟨none, 0, rfl, Nat.le_refl _, rfl, by simp, fun h0 => absurd h0 (by simp)⟩, fun x hx => absurd hx (by simp)⟩
  · have hmc : m = cap := by simpa using hmm
    subst hmc
    have each : ∀ i, i < len → ∃ y : α, (∃ c, c.length = d.sz ∧ d.K w y c ∧ ∀ j u, c[j]? = some u → w.cell? (a.add (i * d.sz + j)) = some u) ∧ Q y := by
      intro i hil
      obtain ⟨cs', hcs, htr⟩ := hi i (by omega)
      rw [hc] at hcs
      obtain ⟨_, hcl, hat⟩ := World.cells?_some hcs
      obtain ⟨y, hK, hQ⟩ := ho H enc w n cs' _ htr
      refine ⟨y, ⟨cs', hcl, hK, fun j u hu => ?_⟩, hQ⟩
      have hj : j < d.sz := by rw [← hcl]; exact (List.getElem?_eq_some_iff.1 hu).1
      rw [← Go.Deep.add_add, hat j hj, hu]
    have hY : ∃ ys : List α, ys.length = len ∧ ∀ i, i < len → ∃ y, ys[i]? = some y ∧ (∃ c, c.length = d.sz ∧ d.K w y c ∧ ∀ j u, c[j]? = some u → w.cell? (a.add (i * d.sz + j)) = some u) ∧ Q y := by
      have key : ∀ q, q ≤ len → ∃ ys : List α, ys.length = q ∧ ∀ i, i < q → ∃ y, ys[i]? = some y ∧ (∃ c, c.length = d.sz ∧ d.K w y c ∧ ∀ j u, c[j]? = some u → w.cell? (a.add (i * d.sz + j)) = some u) ∧ Q y := by
        intro q
        induction q with
        | zero => intro _; exact ⟨[], rfl, fun i hi' => absurd hi' (by omega)⟩
        | succ q ih =>
          intro hq
          obtain ⟨ys, hyl, hys⟩ := ih (by omega)
          obtain ⟨y, hy⟩ := each q (by omega)
          refine ⟨ys ++ [y], by simp [hyl], fun i hi' => ?_⟩
          by_cases e : i = q
          · subst e
            exact ⟨y, by rw [List.getElem?_append_right (by omega)]; simp [hyl], hy⟩
          · obtain ⟨z, hz, hz2⟩ := hys i (by omega)
            exact ⟨z, by rw [List.getElem?_append_left (by omega)]; exact hz, hz2⟩
      exact key len (Nat.le_refl _)
    obtain ⟨ys, hyl, hys⟩ := hY
    refine ⟨ys, ⟨some a, m, by rw [hyl], by omega, rfl, by rw [hyl]; simp only [maxLen] at hm; omega, fun _ => ⟨a, rfl, fun j p hj => ?_⟩⟩, fun x hx => ?_⟩
    · have hjl : j < len := by rw [← hyl]; exact (List.getElem?_eq_some_iff.1 hj).1
      obtain ⟨y, hy, hc2, _⟩ := hys j hjl
      rw [hy] at hj
      obtain rfl := Option.some.inj hj
      exact hc2
    · obtain ⟨j, hj, rfl⟩ := List.getElem_of_mem hx
      obtain ⟨y, hy, _, hq⟩ := hys j (by omega)
      rw [List.getElem?_eq_getElem hj] at hy
      obtain rfl := Option.some.inj hy
      exact hq
/-- Fields in line, from the cell 'off' on. -/
def OpensF (P : Program) (fs : List Field) (off : Nat) (d : Kd α) (Q : α → Prop) : Prop :=
  ∀ (H : Type) (enc : TypeId × Value → H) (w : World) (n : Nat) (cs : List Value), cs.length = off + d.sz →
    (∀ f ∈ fs, ∃ x, DataW.trod enc P w 0 (fun _ => true) true n f.type ((cs.drop f.offset).take (P.cellsOf f.type)) = some x) → ∃ y : α, d.K w y (cs.drop off) ∧ Q y
theorem opensF_one {f : Field} {off : Nat} {d : Kd α} {Q : α → Prop} (ho : f.offset = off) (hc : P.cellsOf f.type = d.sz) (h : Opens P f.type d Q) : OpensF P [f] off d Q := by
  intro H enc w n cs hl hf
  obtain ⟨x, hx⟩ := hf f (by simp)
  rw [ho, hc, List.take_of_length_le (by rw [List.length_drop]; omega)] at hx
  exact h H enc w n _ _ hx
theorem opensF_cons {f : Field} {fs : List Field} {off : Nat} {d : Kd α} {Q : α → Prop} {d' : Kd β} {Q' : β → Prop} (ho : f.offset = off) (hc : P.cellsOf f.type = d.sz) (h : Opens P f.type d Q) (h' : OpensF P fs (off + d.sz) d' Q') :
    OpensF P (f :: fs) off (Kd.pair d d') (fun p => Q p.1 ∧ Q' p.2) := by
  intro H enc w n cs hl hf
  have hl' : cs.length = off + (d.sz + d'.sz) := hl
  obtain ⟨x, hx⟩ := hf f (by simp)
  rw [ho, hc] at hx
  obtain ⟨y, hK, hQ⟩ := h H enc w n _ _ hx
  obtain ⟨y', hK', hQ'⟩ := h' H enc w n cs (by omega) (fun g hg => hf g (by simp [hg]))
  refine ⟨(y, y'), ⟨(cs.drop off).take d.sz, cs.drop (off + d.sz), ?_, hK, hK'⟩, hQ, hQ'⟩
  rw [← List.drop_drop, List.take_append_drop]
theorem opens_struct {fs : Array Field} {d : Kd α} {Q : α → Prop} (ht : P.underlying t = some (.struct fs)) (hc : P.cellsOf t = d.sz) (h : OpensF P fs.toList 0 d Q) : Opens P t d Q := by
  intro H enc w fuel cs x hx
  obtain ⟨xs, n, _, _, hcl, hxl, hg⟩ := DataW.trod_struct ht hx
  obtain ⟨y, hK, hQ⟩ := h H enc w n cs (by omega) (fun f hf => by
    obtain ⟨i, hi, rfl⟩ := List.getElem_of_mem hf
    have hi' : i < fs.size := by simpa using hi
    have h1 := hg i (fs.toList[i]) (by simp [hi'])
    rw [List.getElem?_eq_getElem (by omega)] at h1
    exact ⟨_, h1⟩)
  exact ⟨y, by simpa using hK, hQ⟩
theorem opens_iso {d : Kd α} {Q : α → Prop} (f : β → α) (g : α → β) (hfg : ∀ a, f (g a) = a) (h : Opens P t d Q) : Opens P t (Kd.iso d f) (fun b => Q (f b)) := by
  intro H enc w fuel cs x hx
  obtain ⟨y, hK, hQ⟩ := h H enc w fuel cs x hx
  refine ⟨g y, ?_, ?_⟩
  · show d.K w (f (g y)) cs
    rw [hfg]; exact hK
  · show Q (f (g y))
    rw [hfg]; exact hQ
end
end Go.Proofs.Ytbgohbinonkhfaa.Q

/- What is known of structs that came in. -/
namespace Go.Proofs.Ytbgohbinonkhfaa.Q
open Go.RowKit Go.Proofs.YtbgohbinonkhfaaW.PrintWords Go.Proofs.YtbgohbinonkhfaaW.PrintLast Go.Proofs.YtbgohbinonkhfaaW.PrintMore
attribute [local go_sem] max2_int min2_int max_two min_two max_three min_three max_four min_four
set_option linter.unusedVariables false
set_option linter.unusedSimpArgs false
def wf24 (x : S24) : Prop := I64 x.f0 ∧ I64 x.f1 ∧ I64 x.f2 ∧ (∀ y ∈ x.f3, I64 y)
theorem o24 : Opens Try.prog 24 k24 wf24 :=
  opens_iso (fun x : S24 => (x.f0, x.f1, x.f2, x.f3)) (fun p => (⟨p.1, p.2.1, p.2.2.1, p.2.2.2⟩ : S24)) (fun _ => rfl) (opens_struct Try.underlying24 (by kernel_rfl) (opensF_cons rfl (by kernel_rfl) (opens_i64 Try.underlying3) (opensF_cons rfl (by kernel_rfl) (opens_i64 Try.underlying3) (opensF_cons rfl (by kernel_rfl) (opens_i64 Try.underlying3) (opensF_one rfl (by kernel_rfl) (opens_slice Try.underlying22 (by kernel_rfl) (opens_i64 Try.underlying3)))))))
end Go.Proofs.Ytbgohbinonkhfaa.Q

/- The statement over plain lists and numbers that is left of the law FnExactChangedRegion. -/
namespace Go.Proofs.Ytbgohbinonkhfaa.Q
open Go.RowKit Go.Proofs.YtbgohbinonkhfaaW.PrintWords Go.Proofs.YtbgohbinonkhfaaW.PrintLast Go.Proofs.YtbgohbinonkhfaaW.PrintMore
attribute [local go_sem] max2_int min2_int max_two min_two max_three min_three max_four min_four
set_option linter.unusedVariables false
set_option linter.unusedSimpArgs false
def laws_FnExactChangedRegion.Pure : Prop := ∀ (a0_0 : Int) (a0_1 : Int) (a0_2 : Int) (l0_3 : List Int) (a1_0 : Int) (a1_1 : Int) (a1_2 : Int) (l1_3 : List Int), I64 a0_0 → I64 a0_1 → I64 a0_2 → (∀ y ∈ l0_3, I64 y) → l0_3.length ≤ 9223372036854775807 → I64 a1_0 → I64 a1_1 → I64 a1_2 → (∀ y ∈ l1_3, I64 y) → l1_3.length ≤ 9223372036854775807 → ∃ k, laws_FnExactChangedRegion.f k a0_0 a0_1 a0_2 l0_3 a1_0 a1_1 a1_2 l1_3 = some true
end Go.Proofs.Ytbgohbinonkhfaa.Q

/- Runs: what the program and the reference take for a region. -/
namespace Go.Proofs.Ytbgohbinonkhfaa.Pure
open Go.RowKit Go.Proofs.Ytbgohbinonkhfaa.Q Go.Proofs.YtbgohbinonkhfaaW.PrintWords Go.Proofs.YtbgohbinonkhfaaW.PrintLast Go.Proofs.YtbgohbinonkhfaaW.PrintMore
set_option linter.unusedVariables false
set_option linter.unusedSimpArgs false

abbrev Run := S47
theorem rdRun (l : List Run) (i : Nat) (h : i < l.length) : rd_T47 l (i : Int) = l[i] := by simp [rd_T47, h]
def before (l : List Run) (i : Nat) : Option Run := if i = 0 then none else l[i - 1]?
end Go.Proofs.Ytbgohbinonkhfaa.Pure

/- Grids and their runs, as the reference has them: lists of 256 bools. -/
namespace Go.Proofs.Ytbgohbinonkhfaa.Pure
open Go.RowKit Go.Proofs.Ytbgohbinonkhfaa.Q Go.Proofs.YtbgohbinonkhfaaW.PrintWords Go.Proofs.YtbgohbinonkhfaaW.PrintLast Go.Proofs.YtbgohbinonkhfaaW.PrintMore
set_option linter.unusedVariables false
set_option linter.unusedSimpArgs false

/-- A grid as a list. -/
def tab (g : Nat → Bool) : List Bool := (List.range 256).map g
theorem tab_length (g : Nat → Bool) : (tab g).length = 256 := by simp [tab]
theorem tab_get (g : Nat → Bool) (i : Nat) (h : i < 256) : rdOf false (tab g) (i : Int) = g i := by
  simp [rdOf, tab, List.getD_eq_getElem?_getD, h]
theorem tab_set (g : Nat → Bool) (i : Nat) (b : Bool) : (tab g).set i b = tab (fun p => if p = i then b else g p) := by
  apply List.ext_getElem
  · simp [tab]
  · intro j h1 h2
    rw [List.getElem_set]
    simp only [tab, List.getElem_map, List.getElem_range]
    by_cases e : i = j
    · rw [if_pos e, if_pos e.symm]
    · rw [if_neg e, if_neg (fun h => e h.symm)]
theorem tab_congr {g g' : Nat → Bool} (h : ∀ p, p < 256 → g p = g' p) : tab g = tab g' := by
  unfold tab
  apply List.map_congr_left
  intro p hp
  exact h p (by simpa using hp)
theorem tab_false : List.replicate 256 false = tab (fun _ => false) := by
  refine List.ext_getElem (by rw [List.length_replicate, tab_length]) (fun j h1 h2 => ?_)
  rw [List.getElem_replicate]
  simp only [tab, List.getElem_map]
/-! the reference's grid -/
/-! the reference's runs -/
def rowRest (g : Nat → Bool) (y x : Nat) (from_ : Int) : List Run :=
  if from_ < 0 then scanRow g y x else ⟨(y : Int), from_, (endAt g y (16 - x) x : Nat)⟩ :: scanRow g y (endAt g y (16 - x) x + 1)
theorem spec_runsOf_ev (g : Nat → Bool) : Ev (fun k => spec_runsOf.f k (tab g)) (runsL g) := by
  have key := ev_up2 16 (fun k y (s : List Run) => spec_runsOf.l0 k (tab g) s (y : Int)) (fun y s => s = runsTo g y ∧ s.length ≤ 17 * y) (fun _ _ => runsL g)
    (by
      intro y s hy hs
      right
      have inner : ∀ r, (∀ acc : List Run, acc = runsTo g (y + 1) → acc.length ≤ 17 * (y + 1) → Ev (fun k => spec_runsOf.l0 k (tab g) acc ((y + 1 : Nat) : Int)) r) →
          Ev (fun k => spec_runsOf.l1 k (tab g) s (y : Int) (-1) 0) r := by
        intro r hnext
        have h := ev_up2 17 (fun k x (q : List Run × Int) => spec_runsOf.l1 k (tab g) q.1 (y : Int) q.2 (x : Int))
          (fun x q => q.1 ++ rowRest g y x q.2 = runsTo g (y + 1) ∧ q.1.length ≤ 17 * y + x ∧ (q.2 = -1 ∨ (0 ≤ q.2 ∧ q.2 < x ∧ x ≤ 16))) (fun _ _ => r)
          (by
            intro x q hx hq
            obtain ⟨acc, fr⟩ := q
            obtain ⟨h1, h2, h3⟩ := hq
            simp only at h1 h2 h3
            right
            have j3 : ∀ (b : Bool), (x < 16 → b = g (y * 16 + x)) → (x = 16 → b = false) → ∃ s' : List Run × Int,
                (∀ r, Ev (fun k => spec_runsOf.l1 k (tab g) s'.1 (y : Int) s'.2 ((x + 1 : Nat) : Int)) r → Ev (fun k => spec_runsOf.j2 k (tab g) acc (y : Int) fr (x : Int) b) r) ∧
                (s'.1 ++ rowRest g y (x + 1) s'.2 = runsTo g (y + 1) ∧ s'.1.length ≤ 17 * y + (x + 1) ∧ (s'.2 = -1 ∨ (0 ≤ s'.2 ∧ s'.2 < ((x + 1 : Nat) : Int) ∧ x + 1 ≤ 16))) := by
              intro b hb hb16
              rcases h3 with h3 | h3
              · subst h3
                cases b with
                | true =>
                  have hx16 : x < 16 := by
                    by_cases c : x = 16
                    · have := hb16 c; cases this
                    · omega
                  refine ⟨(acc, (x : Int)), fun r hr => ?_, ?_, by simp only; omega, .inr (by simp only; omega)⟩
                  · refine Ev.step (f := fun k => spec_runsOf.j3 k (tab g) acc (y : Int) (-1) (x : Int) true true) (fun k => ?_) (Ev.step (fun k => ?_) hr)
                    · simp only [spec_runsOf.j2]; simp
                    · simp only [spec_runsOf.j3]
                      rw [if_pos trivial, if_pos trivial, w64n x (by omega)]
                  · have hv := (hb hx16).symm
                    rw [← h1]
                    show acc ++ rowRest g y (x + 1) (x : Int) = acc ++ rowRest g y x (-1)
                    unfold rowRest
                    rw [if_neg (by omega), if_pos (by omega), scan_true g y x hx16 hv, endAt_step g y x hx16 hv]
                | false =>
                  refine ⟨(acc, -1), fun r hr => ?_, ?_, by simp only; omega, .inl rfl⟩
                  · refine Ev.step (f := fun k => spec_runsOf.j3 k (tab g) acc (y : Int) (-1) (x : Int) false false) (fun k => ?_) (Ev.step (fun k => ?_) hr)
                    · simp only [spec_runsOf.j2]; simp
                    · simp only [spec_runsOf.j3]
                      rw [if_neg (by simp), if_neg (by simp), if_neg (by omega), w64n x (by omega)]
                  · rw [← h1]
                    show acc ++ rowRest g y (x + 1) (-1) = acc ++ rowRest g y x (-1)
                    unfold rowRest
                    rw [if_pos (by omega), if_pos (by omega)]
                    by_cases c : x < 16
                    · rw [scan_false g y x c (hb c).symm]
                    · rw [scan_end g y x (by omega), scan_end g y (x + 1) (by omega)]
              · cases b with
                | true =>
                  have hx16 : x < 16 := by
                    by_cases c : x = 16
                    · have := hb16 c; cases this
                    · omega
                  refine ⟨(acc, fr), fun r hr => ?_, ?_, by simp only; omega, .inr (by simp only; omega)⟩
                  · refine Ev.step (f := fun k => spec_runsOf.j3 k (tab g) acc (y : Int) fr (x : Int) true false) (fun k => ?_) (Ev.step (fun k => ?_) hr)
                    · simp only [spec_runsOf.j2]
                      rw [if_pos trivial, decide_eq_false (show ¬ fr < 0 by omega)]
                    · simp only [spec_runsOf.j3]
                      rw [if_neg (by simp), if_pos trivial, w64n x (by omega)]
                  · have hv := (hb hx16).symm
                    rw [← h1]
                    show acc ++ rowRest g y (x + 1) fr = acc ++ rowRest g y x fr
                    unfold rowRest
                    rw [if_neg (by omega), if_neg (by omega), endAt_step g y x hx16 hv]
                | false =>
                  refine ⟨(acc ++ [⟨(y : Int), fr, (x : Int)⟩], -1), fun r hr => ?_, ?_, by simp; omega, .inl rfl⟩
                  · refine Ev.step (f := fun k => spec_runsOf.j3 k (tab g) acc (y : Int) fr (x : Int) false false) (fun k => ?_) (Ev.step (fun k => ?_) hr)
                    · simp only [spec_runsOf.j2]; simp
                    · simp only [spec_runsOf.j3]
                      rw [if_neg (by simp), if_neg (by simp), if_pos (by omega), if_pos (by omega), w64n x (by omega)]
                  · rw [← h1]
                    show acc ++ [⟨(y : Int), fr, (x : Int)⟩] ++ rowRest g y (x + 1) (-1) = acc ++ rowRest g y x fr
                    unfold rowRest
                    have hst : endAt g y (16 - x) x = x := endAt_stop g y x (by
                      by_cases c : x < 16
                      · right; exact (hb c).symm
                      · left; omega)
                    rw [if_pos (by omega), if_neg (by omega), hst]
                    simp
            by_cases hx16 : x < 16
            · obtain ⟨s', e1, e2⟩ := j3 (g (y * 16 + x)) (fun _ => rfl) (fun c => by omega)
              refine ⟨s', fun r hr => ?_, e2, rfl⟩
              refine Ev.step (fun k => ?_) (e1 r hr)
              simp only [spec_runsOf.l1]
              have e3 : wrap64 (wrap64 ((y : Int) * 16) + (x : Int)) = ((y * 16 + x : Nat) : Int) := by
                rw [w64 (x := (y : Int) * 16) (by omega) (by omega), w64 (x := (y : Int) * 16 + (x : Int)) (by omega) (by omega)]; omega
              rw [if_pos (by omega), if_pos (by omega), e3, if_pos (by omega), tab_length, if_pos (by omega), tab_get g _ (by omega)]
            · obtain ⟨s', e1, e2⟩ := j3 false (fun c => by omega) (fun _ => rfl)
              refine ⟨s', fun r hr => ?_, e2, rfl⟩
              refine Ev.step (fun k => ?_) (e1 r hr)
              simp only [spec_runsOf.l1]
              rw [if_pos (by omega), if_neg (by omega)])
          (by
            intro q hq
            obtain ⟨acc, fr⟩ := q
            obtain ⟨h1, h2, h3⟩ := hq
            simp only at h1 h2 h3
            have hf : fr = -1 := by omega
            subst hf
            have he : acc = runsTo g (y + 1) := by
              rw [← h1]
              unfold rowRest
              rw [if_pos (by omega), scan_end g y 17 (by omega), List.append_nil]
            refine Ev.step (fun k => ?_) (hnext acc he (by omega))
            simp only [spec_runsOf.l1]
            rw [if_neg (by omega), w64n y (by omega)])
          17 0 (s, -1) (by omega) ⟨by
            unfold rowRest
            rw [if_pos (by omega), hs.1, ← runsTo_succ], by have := hs.2; simp only; omega, .inl rfl⟩
        exact h
      have hlen : (runsTo g (y + 1)).length ≤ 17 * (y + 1) := by
        rw [runsTo_succ, List.length_append]
        have hsc : ∀ d x, 17 ≤ x + d → (scanRow g y x).length ≤ 17 - x := by
          intro d
          induction d with
          | zero => intro x hx; rw [scan_end g y x (by omega)]; simp
          | succ d ih =>
            intro x hx
            by_cases h16 : x < 16
            · cases hv : g (y * 16 + x) with
              | true =>
                have := endAt_ge g y (16 - x) x
                rw [scan_true g y x h16 hv, List.length_cons]
                have := ih (endAt g y (16 - x) x + 1) (by omega)
                omega
              | false =>
                rw [scan_false g y x h16 hv]
                have := ih (x + 1) (by omega)
                omega
            · rw [scan_end g y x (by omega)]; simp
        have h1 := hsc 17 0 (by omega)
        have h2 := hs.2
        rw [hs.1] at h2
        omega
      refine ⟨runsTo g (y + 1), fun r hr => ?_, ⟨rfl, hlen⟩, rfl⟩
      refine Ev.step (fun k => ?_) (inner r (fun acc ha _ => by rw [ha]; exact hr))
      simp only [spec_runsOf.l0]
      rw [if_pos (by omega)])
    (by
      intro s hs
      refine Ev.step (f := fun _ => some s) (fun k => ?_) (ev_val (Ev.now s) hs.1)
      simp only [spec_runsOf.l0]
      rw [if_neg (by omega)])
    16 0 [] (by omega) ⟨by simp [runsTo], by simp⟩
  exact key
end Go.Proofs.Ytbgohbinonkhfaa.Pure

/- Neighbours of a grid's pixels, by their numbers; a loop that fills a grid. -/
namespace Go.Proofs.Ytbgohbinonkhfaa.Pure
open Go.RowKit Go.Proofs.Ytbgohbinonkhfaa.Q Go.Proofs.YtbgohbinonkhfaaW.PrintWords Go.Proofs.YtbgohbinonkhfaaW.PrintLast Go.Proofs.YtbgohbinonkhfaaW.PrintMore
set_option linter.unusedVariables false
set_option linter.unusedSimpArgs false

theorem gso_at (so : Nat → Nat → Bool) (p : Nat) (h : p < 256) : gso so 256 p = so (p % 16) (p / 16) := by
  unfold gso; rw [decide_eq_true h, Bool.true_and]
end Go.Proofs.Ytbgohbinonkhfaa.Pure

/- The region of a box, as the program and the reference have it. -/
namespace Go.Proofs.Ytbgohbinonkhfaa.Pure
open Go.RowKit Go.Proofs.Ytbgohbinonkhfaa.Q Go.Proofs.YtbgohbinonkhfaaW.PrintWords Go.Proofs.YtbgohbinonkhfaaW.PrintLast Go.Proofs.YtbgohbinonkhfaaW.PrintMore
set_option linter.unusedVariables false
set_option linter.unusedSimpArgs false

theorem scanRow_len (g : Nat → Bool) (y : Nat) : ∀ d x, 17 ≤ x + d → (scanRow g y x).length ≤ 17 - x := by
  intro d
  induction d with
  | zero => intro x hx; rw [scan_end g y x (by omega)]; simp
  | succ d ih =>
    intro x hx
    by_cases h16 : x < 16
    · cases hv : g (y * 16 + x) with
      | true =>
        have := endAt_ge g y (16 - x) x
        rw [scan_true g y x h16 hv, List.length_cons]
        have := ih (endAt g y (16 - x) x + 1) (by omega)
        omega
      | false =>
        rw [scan_false g y x h16 hv]
        have := ih (x + 1) (by omega)
        omega
    · rw [scan_end g y x (by omega)]; simp
theorem runsTo_len (g : Nat → Bool) (n : Nat) : (runsTo g n).length ≤ 17 * n := by
  induction n with
  | zero => simp [runsTo]
  | succ n ih =>
    rw [runsTo_succ, List.length_append]
    have := scanRow_len g n 17 0 (by omega)
    omega
theorem runsL_len (g : Nat → Bool) : (runsL g).length ≤ 272 := runsTo_len g 16
end Go.Proofs.Ytbgohbinonkhfaa.Pure

/- The pixels at which two images differ, as the program and the reference have them. -/
namespace Go.Proofs.Ytbgohbinonkhfaa.Pure
open Go.RowKit Go.Proofs.Ytbgohbinonkhfaa.Q Go.Proofs.YtbgohbinonkhfaaW.PrintWords Go.Proofs.YtbgohbinonkhfaaW.PrintLast Go.Proofs.YtbgohbinonkhfaaW.PrintMore
set_option linter.unusedVariables false
set_option linter.unusedSimpArgs false

theorem copyInts_eq (l : List Int) (hl : l.length ≤ 1000000) : spec_copyInts.f l = some l := by
  unfold spec_copyInts.f
  simp only [Option.bind_some]
  rw [if_pos (by simp; omega)]
  simp
theorem pixT_len (d : List Int) (j p : Int) : (pixT d j p).length ≤ d.length := by
  unfold pixT
  rw [List.length_drop, List.length_take]
  omega
theorem spec_pixelAt_eq {a b p : Int} {d : List Int} (hv : validI a b p d = true) {x y : Nat} (hx : (x : Int) < a) (hy : (y : Int) < b) : spec_pixelAt.f a b p d (x : Int) (y : Int) = some (pixT d (pixJ a p x y) p) := by
  have h := pixJ_is hv hx hy
  have hh := (validI_iff a b p d).1 hv
  have hp := shape_prod hh.1
  have e : wrap64 ((wrap64 ((wrap64 ((y : Int) * a)) + (x : Int))) * p) = pixJ a p x y := rfl
  unfold spec_pixelAt.f
  rw [e]
  generalize pixJ a p x y = j at *
  have hw : wrap64 (j + p) = j + p := w64 (by omega) (by omega)
  rw [if_pos (by omega), if_pos (by omega), if_pos (by omega)]
  have hl := pixT_len d j p
  show (spec_copyInts.f (pixT d j p)).bind _ = _
  rw [copyInts_eq _ (by omega)]
  rfl
theorem spec_equalInts_ev (l m : List Int) (hl : l.length ≤ 1000000) : Ev (fun k => spec_equalInts.f k l m) (decide (l = m)) := by
  unfold spec_equalInts.f
  by_cases hn : l.length = m.length
  · have key := ev_up l.length (fun k i (_ : Unit) => spec_equalInts.l0 k l m (i : Int)) (fun _ _ => True) (fun i _ => decide (l.drop i = m.drop i))
      (by
        intro i s hi _
        have e1 := List.drop_eq_getElem_cons hi
        have e2 := List.drop_eq_getElem_cons (show i < m.length by omega)
        by_cases c : l[i] = m[i]'(by omega)
        · refine .inr ⟨(), fun k => ?_, trivial, ?_⟩
          · simp only [spec_equalInts.l0]
            rw [if_pos (by omega), if_pos (by omega), if_pos (by omega), rd_nat l i hi, rd_nat m i (by omega), if_pos c, w64n i (by omega)]
          · rw [e1, e2, decide_eq_decide, List.cons.injEq]
            exact ⟨fun h => ⟨c, h⟩, fun h => h.2⟩
        · left
          rw [e1, e2, decide_eq_false (by rw [List.cons.injEq]; exact fun h => c h.1)]
          refine Ev.step (f := fun _ => some false) (fun k => ?_) (Ev.now _)
          simp only [spec_equalInts.l0]
          rw [if_pos (by omega), if_pos (by omega), if_pos (by omega), rd_nat l i hi, rd_nat m i (by omega), if_neg c])
      (by
        intro s _
        refine Ev.step (f := fun _ => some true) (fun k => ?_) (ev_const (by rw [List.drop_length, hn, List.drop_length]; rfl))
        simp only [spec_equalInts.l0]
        rw [if_neg (by omega)])
      l.length 0 () (by omega) trivial
    exact ev_pos (by omega) (by simpa using key)
  · refine ev_neg (by omega) ?_
    rw [decide_eq_false (fun h => hn (by rw [h]))]
    exact Ev.now _
/-- what has been looked at ahead of column x of row y -/
def upG (f : Nat → Nat → Bool) (y x q : Nat) : Bool := decide (q / 16 < y ∨ (q / 16 = y ∧ q % 16 < x)) && f (q % 16) (q / 16)
theorem upG_set (f : Nat → Nat → Bool) (y x q : Nat) (hx : x < 16) : (if q = y * 16 + x then f x y else upG f y x q) = upG f y (x + 1) q := by
  unfold upG
  by_cases e : q = y * 16 + x
  · have e1 : q % 16 = x := by omega
    have e2 : q / 16 = y := by omega
    rw [if_pos e, e1, e2, decide_eq_true (by omega), Bool.true_and]
  · rw [if_neg e]
    congr 1
    rw [decide_eq_decide]
    omega
theorem upG_row (f : Nat → Nat → Bool) (W y q : Nat) (hf : ∀ x, W ≤ x → f x y = false) (hW : W ≤ 16) : upG f y W q = upG f (y + 1) 0 q := by
  unfold upG
  by_cases e : q / 16 = y
  · by_cases c : q % 16 < W
    · rw [decide_eq_true (by omega), decide_eq_true (by omega)]
    · rw [e, hf _ (by omega), Bool.and_false, Bool.and_false]
  · congr 1
    rw [decide_eq_decide]
    omega
theorem chg_col (a b p : Int) (d1 d2 : List Int) (x y : Nat) (h : a ≤ (x : Int)) : chg a b p d1 d2 x y = false := by
  unfold chg; rw [decide_eq_false (by omega), Bool.false_and]
theorem chg_row (a b p : Int) (d1 d2 : List Int) (x y : Nat) (h : b ≤ (y : Int)) : chg a b p d1 d2 x y = false := by
  unfold chg; rw [decide_eq_false (show ¬ (y : Int) < b by omega), Bool.false_and, Bool.and_false]
theorem spec_changed_ev (W H : Nat) (p : Int) (d1 d2 : List Int) (hv1 : validI W H p d1 = true) (hv2 : validI W H p d2 = true) : Ev (fun k => spec_changed.f k W H p d1 W H p d2) (runsL (gso (chg W H p d1 d2) 256)) := by
  have hh := (validI_iff _ _ _ _).1 hv1
  have hpr := shape_prod hh.1
  have hW : W ≤ 16 := by omega
  have hH : H ≤ 16 := by omega
  obtain ⟨f, hf⟩ : ∃ f, f = chg W H p d1 d2 := ⟨_, rfl⟩
  have hlast : ∀ q, q < 256 → upG f H 0 q = gso f 256 q := by
    intro q hq
    rw [gso_at _ _ hq]
    unfold upG
    by_cases c : q / 16 < H
    · rw [decide_eq_true (by omega), Bool.true_and]
    · rw [hf, chg_row _ _ _ _ _ _ _ (by omega), Bool.and_false]
  have key := ev_up2 H (fun k y (s : List Bool) => spec_changed.l0 k s (y : Int) W H p d1 W H p d2) (fun y s => s = tab (upG f y 0)) (fun _ _ => runsL (gso f 256))
    (by
      intro y s hy hs
      right
      refine ⟨tab (upG f (y + 1) 0), fun R hR => ?_, rfl, rfl⟩
      have inner := ev_up2 W (fun k x (s : List Bool) => spec_changed.l1 k s (y : Int) (x : Int) W H p d1 W H p d2) (fun x s => s = tab (upG f y x)) (fun _ _ => R)
        (by
          intro x s hx hs
          right
          refine ⟨tab (upG f y (x + 1)), fun R' hR' => ?_, rfl, rfl⟩
          have e1 := spec_pixelAt_eq hv1 (x := x) (y := y) (by omega) (by omega)
          have e2 := spec_pixelAt_eq hv2 (x := x) (y := y) (by omega) (by omega)
          have hl := pixT_len d1 (pixJ W p x y) p
          have e3 := spec_equalInts_ev (pixT d1 (pixJ W p x y) p) (pixT d2 (pixJ W p x y) p) (by omega)
          have e4 : wrap64 ((wrap64 ((y : Int) * 16)) + (x : Int)) = ((y * 16 + x : Nat) : Int) := by
            rw [w64 (x := (y : Int) * 16) (by omega) (by omega), w64 (by omega) (by omega)]; omega
          have e5 : (!(decide (pixT d1 (pixJ W p x y) p = pixT d2 (pixJ W p x y) p))) = f x y := by rw [hf, chg_in _ _ _ _ _ _ _ (by omega) (by omega)]
          have hset : s.set (y * 16 + x) (f x y) = tab (upG f y (x + 1)) := by
            rw [hs, tab_set]
            exact tab_congr (fun q _ => upG_set f y x q (by omega))
          have hlen : s.length = 256 := by rw [hs, tab_length]
          refine Ev.step (f := fun k => (spec_pixelAt.f W H p d1 (x : Int) (y : Int)).bind fun u => (spec_pixelAt.f W H p d2 (x : Int) (y : Int)).bind fun v => (spec_equalInts.f k u v).bind fun z => if 0 ≤ (wrap64 ((wrap64 ((y : Int) * 16)) + (x : Int))) then (if (wrap64 ((wrap64 ((y : Int) * 16)) + (x : Int))) < (s.length : Int) then spec_changed.l1 k (s.set ((wrap64 ((wrap64 ((y : Int) * 16)) + (x : Int))) : Int).toNat (!z)) (y : Int) (wrap64 ((x : Int) + 1)) W H p d1 W H p d2 else none) else none) (fun k => ?_) ?_
          · simp only [spec_changed.l1]
            rw [if_pos (by omega)]
          · refine ev_now e1 (ev_now e2 (ev_bind e3 ?_))
            rw [e4, e5]
            refine ev_pos (by omega) (ev_pos (by omega) ?_)
            rw [Int.toNat_natCast, hset, w64n x (by omega)]
            exact hR')
        (by
          intro s hs
          have hrow : s = tab (upG f (y + 1) 0) := by
            rw [hs]
            exact tab_congr (fun q _ => upG_row f W y q (fun x hx => by rw [hf]; exact chg_col _ _ _ _ _ _ _ (by omega)) hW)
          refine Ev.step (fun k => ?_) (show Ev (fun k => spec_changed.l0 k s ((y + 1 : Nat) : Int) W H p d1 W H p d2) R from by rw [hrow]; exact hR)
          simp only [spec_changed.l1]
          rw [if_neg (by omega), w64n y (by omega)])
        W 0 s (by omega) hs
      have inner' : Ev (fun k => spec_changed.l1 k s (y : Int) 0 W H p d1 W H p d2) R := inner
      refine Ev.step (fun k => ?_) inner'
      simp only [spec_changed.l0]
      rw [if_pos (by omega)])
    (by
      intro s hs
      have hend : s = tab (gso f 256) := by rw [hs]; exact tab_congr hlast
      refine Ev.step (f := fun k => (spec_runsOf.f k s).bind fun t => some t) (fun k => ?_) (ev_bind (by rw [hend]; exact spec_runsOf_ev _) (Ev.now _))
      simp only [spec_changed.l0]
      rw [if_neg (by omega)])
    H 0 (List.replicate 256 false) (by omega) (by
      rw [tab_false]
      refine tab_congr (fun q _ => ?_)
      unfold upG
      rw [decide_eq_false (by omega), Bool.false_and])
  unfold spec_changed.f
  rw [← hf]
  have key' : Ev (fun k => spec_changed.l0 k (List.replicate 256 false) 0 W H p d1 W H p d2) (runsL (gso f 256)) := key
  exact ev_pos (by omega) key'
def changedV (a b p : Int) (d1 : List Int) (a' b' p' : Int) (d2 : List Int) : List Run := if sameV a b p d1 a' b' p' d2 = true then runsL (gso (chg a b p d1 d2) 256) else []
theorem changedV_len (a b p : Int) (d1 : List Int) (a' b' p' : Int) (d2 : List Int) : (changedV a b p d1 a' b' p' d2).length ≤ 272 := by
  unfold changedV
  split
  · exact runsL_len _
  · simp
end Go.Proofs.Ytbgohbinonkhfaa.Pure

/- ChangedRegion, as the program and the reference have it. -/
namespace Go.Proofs.Ytbgohbinonkhfaa.Pure
open Go.RowKit Go.Proofs.Ytbgohbinonkhfaa.Q Go.Proofs.YtbgohbinonkhfaaW.PrintWords Go.Proofs.YtbgohbinonkhfaaW.PrintLast Go.Proofs.YtbgohbinonkhfaaW.PrintMore
set_option linter.unusedVariables false
set_option linter.unusedSimpArgs false

theorem impl_ChangedRegion_eq (a b p : Int) (d1 : List Int) (a' b' p' : Int) (d2 : List Int) : impl_ChangedRegion.f a b p d1 a' b' p' d2 = some (changedV a b p d1 a' b' p' d2) := rfl
theorem spec_ChangedRegion_ev (a b p : Int) (d1 : List Int) (a' b' p' : Int) (d2 : List Int) (hl : d1.length ≤ 1000000000000) (hl' : d2.length ≤ 1000000000000) : Ev (fun k => spec_ChangedRegion.f k a b p d1 a' b' p' d2) (changedV a b p d1 a' b' p' d2) := by
  unfold spec_ChangedRegion.f changedV
  refine ev_bind (spec_sameShape_ev a b p d1 a' b' p' d2 hl hl') ?_
  by_cases c : sameV a b p d1 a' b' p' d2 = true
  · rw [if_pos c]
    obtain ⟨h1, h2, rfl, rfl, rfl⟩ := (sameV_iff _ _ _ _ _ _ _ _).1 c
    have hh := (validI_iff _ _ _ _).1 h1
    obtain ⟨W, rfl⟩ := Int.eq_ofNat_of_zero_le (show 0 ≤ a by omega)
    obtain ⟨H, rfl⟩ := Int.eq_ofNat_of_zero_le (show 0 ≤ b by omega)
    exact ev_pos c (ev_bind (spec_changed_ev W H p d1 d2 h1 h2) (Ev.now _))
  · rw [if_neg c]
    exact ev_neg c (Ev.now _)
end Go.Proofs.Ytbgohbinonkhfaa.Pure
