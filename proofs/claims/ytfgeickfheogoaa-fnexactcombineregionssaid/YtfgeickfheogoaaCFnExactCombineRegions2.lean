/- A part of the proof that the statement FnExactCombineRegionsSaid holds, under no condition of its own: The program's CombineRegions and the reference's return the same, and what is returned is held by nobody else: over lists of numbers alone. -/
import Derived.Test.YtfgeickfheogoaaCFnExactCombineRegions1
import Derived.Shelf.Abstract
import Derived.Deep.WholeRow
import Derived.Deep.RegionWith
import Derived.BigQuiet
import Derived.Deep.QuietTactic
namespace Go.Proofs.Ytfgeickfheogoaa.Q
open Go.RowKit Go.Proofs.YtfgeickfheogoaaW.PrintWords Go.Proofs.YtfgeickfheogoaaW.PrintLast Go.Proofs.YtfgeickfheogoaaW.PrintMore
attribute [local go_sem] max2_int min2_int max_two min_two max_three min_three max_four min_four
set_option linter.unusedVariables false
set_option linter.unusedSimpArgs false
/-! ### spec_combine: function 76 -/
def spec_combine.l0 : Nat → Int → List Bool → List Bool → Int → Option ((List (S57)))
  | 0, _, _, _, _ => none
  | k + 1, x2, x7, x8, x9 => if x9 < (x7.length : Int) then (if x2 = 0 then (if 0 ≤ x9 then (if rdOf false x7 x9 = true then (spec_combine.l0 k x2 (x7.set (x9 : Int).toNat true) x8 (wrap64 (x9 + 1))) else (if x9 < (x8.length : Int) then (spec_combine.l0 k x2 (x7.set (x9 : Int).toNat (rdOf false x8 x9)) x8 (wrap64 (x9 + 1))) else (none))) else (none)) else (if x2 = 1 then (if 0 ≤ x9 then (if rdOf false x7 x9 = true then (if x9 < (x8.length : Int) then (spec_combine.l0 k x2 (x7.set (x9 : Int).toNat (rdOf false x8 x9)) x8 (wrap64 (x9 + 1))) else (none)) else (spec_combine.l0 k x2 (x7.set (x9 : Int).toNat false) x8 (wrap64 (x9 + 1)))) else (none)) else (if x2 = 2 then (if 0 ≤ x9 then (if rdOf false x7 x9 = true then (if x9 < (x8.length : Int) then (spec_combine.l0 k x2 (x7.set (x9 : Int).toNat (!(rdOf false x8 x9))) x8 (wrap64 (x9 + 1))) else (none)) else (spec_combine.l0 k x2 (x7.set (x9 : Int).toNat false) x8 (wrap64 (x9 + 1)))) else (none)) else (if 0 ≤ x9 then (if x9 < (x8.length : Int) then (spec_combine.l0 k x2 (x7.set (x9 : Int).toNat ((rdOf false x7 x9) != (rdOf false x8 x9))) x8 (wrap64 (x9 + 1))) else (none)) else (none))))) else ((spec_runsOf.f k x7).bind fun t77007 => (some t77007))
def spec_combine.f (k : Nat) (l0 : List (S57)) (l1 : List (S57)) (a2 : Int) : Option ((List (S57))) := (spec_gridOf.f k l0).bind fun t77001 => ((spec_gridOf.f k l1).bind fun t77004 => (spec_combine.l0 k a2 t77001 t77004 0))
theorem spec_combine.mono_l : ∀ k, (∀ y0 y1 y2 y3, LeO (spec_combine.l0 k y0 y1 y2 y3) (spec_combine.l0 (k + 1) y0 y1 y2 y3))
  | 0 => fun _ _ _ _ r h => by simp [spec_combine.l0] at h
  | k + 1 => by
    have ih0 := spec_combine.mono_l k
    · intro y0 y1 y2 y3
      unfold spec_combine.l0
      repeat' first
      | (with_reducible exact ih0 _ _ _ _)
      | (with_reducible exact spec_gridOf.mono _ _)
      | (with_reducible exact spec_runsOf.mono _ _)
      | (with_reducible exact LeO.refl _)
      | (with_reducible exact LeO.none _)
      | (with_reducible refine LeO.ite ?_ ?_)
      | (with_reducible refine LeO.bind ?_ (fun _ => ?_))
      | exact ih0 _ _ _ _
      | exact spec_gridOf.mono _ _
      | exact spec_runsOf.mono _ _
      | exact LeO.none _
      | refine LeO.ite ?_ ?_
      | refine LeO.bind ?_ (fun _ => ?_)
theorem spec_combine.mono : ∀ a0 a1 a2 k, LeO (spec_combine.f k a0 a1 a2) (spec_combine.f (k + 1) a0 a1 a2) := by
  intro a0 a1 a2 k
  have ih0 := spec_combine.mono_l k
  unfold spec_combine.f
  repeat' first
      | (with_reducible exact ih0 _ _ _ _)
      | (with_reducible exact spec_gridOf.mono _ _)
      | (with_reducible exact spec_runsOf.mono _ _)
      | (with_reducible exact LeO.refl _)
      | (with_reducible exact LeO.none _)
      | (with_reducible refine LeO.ite ?_ ?_)
      | (with_reducible refine LeO.bind ?_ (fun _ => ?_))
      | exact ih0 _ _ _ _
      | exact spec_gridOf.mono _ _
      | exact spec_runsOf.mono _ _
      | exact LeO.none _
      | refine LeO.ite ?_ ?_
      | refine LeO.bind ?_ (fun _ => ?_)
def spec_combine.T7 : Bool × List (List Nat × List Nat) := (true, [([], []), ([], []), ([], []), ([], []), ([2, 3], [2, 3]), ([4], [4]), ([], []), ([], []), ([6, 7], [6, 7]), ([8], [8]), ([5, 9], [5, 9]), ([0, 1, 0, 1, 2, 3, 4, 5, 6, 7, 8, 9, 10], [0, 1]), ([11, 10, 0, 1, 2, 3, 4, 5, 6, 7, 8, 9, 10], [10, 11])])
def spec_combine.B7 : List Nat := [0, 0, 0, 0, 12, 28, 0, 0, 192, 448, 1020, 2047, 4095]
theorem spec_combine.tab7 : rtab .any (opsOf Try.f76 7) = spec_combine.T7 := by kernel_rfl
theorem spec_combine.bits7 : waitsOk spec_combine.T7.2 spec_combine.B7 = true := by kernel_rfl
set_option maxHeartbeats 8000000 in
set_option maxRecDepth 100000 in
theorem spec_combine.calls (k : Nat) (A0 : Option Addr) (c0 : Nat) (l0 : List (S57)) (A1 : Option Addr) (c1 : Nat) (l1 : List (S57)) (a2 : Int) (r : List (S57)) (w : World) (hr0 : Kd.C k57 w A0 l0.length l0) (hc0 : l0.length ≤ c0) (hr1 : Kd.C k57 w A1 l1.length l1) (hc1 : l1.length ≤ c1) (h : spec_combine.f k l0 l1 a2 = some r) :
    Calls Try.prog 76 #[.slice A0 l0.length c0, .slice A1 l1.length c1, .int .i64 a2] w fun e w' => ∃ v0_ : Value, e = .returned (v0_) ∧ Kd.R k57 57 w' w.heap.size (fun _ => True) v0_ r ∧ Below w.heap.size w w' := by
  have HR0 := Aside0.mk hr0
  have HC0 := Aside0.mk hc0
  clear hr0 hc0
  have HR1 := Aside0.mk hr1
  have HC1 := Aside0.mk hc1
  clear hr1 hc1
  have HB := Aside0.mk (Below.refl w.heap.size w)
  have H : ((spec_gridOf.f k l0).bind fun t77001 => ((spec_gridOf.f k l1).bind fun t77004 => (spec_combine.l0 k a2 t77001 t77004 0))) = some r := h
  clear h
  replace H := Option.bind_eq_some_iff.mp H
  obtain ⟨t77001, A40, H⟩ := H
  replace H : ((spec_gridOf.f k l1).bind fun t77004 => (spec_combine.l0 k a2 t77001 t77004 0)) = some r := H
  have A4 := Aside0.mk A40
  clear A40
  replace H := Option.bind_eq_some_iff.mp H
  obtain ⟨t77004, A50, H⟩ := H
  replace H : (spec_combine.l0 k a2 t77001 t77004 0) = some r := H
  have A5 := Aside0.mk A50
  clear A50
  have H' := Aside0.mk H
  clear H
  go_enter Try.func76, Try.ntmps76
  go_wp2_with (first | ((with_reducible refine gate_callee (f := 58) rfl ?_); refine goesL_ (some 11) rfl rfl Try.func58 (by kernel_rfl) rfl #[.slice A0 l0.length c0] rfl (by (try simp only [List.map_toArray, List.map_cons, List.map_nil]); first | done | rfl | (simp only [List.length_drop, List.length_take]; rfl)) ?_; (with_reducible refine (spec_gridOf.calls k _ _ l0 t77001 _ ?side1 ?side2 A4.out).mono ?_); (case side1 => repeat (first | exact HR0.out | (with_reducible refine Kd.C_alloc ?_ _) | (with_reducible refine Kd.C_drewN ?_ _) | (with_reducible refine Kd.C_drew ?_))); (case side2 => exact HC0.out); rintro e w6 ⟨v77002, rfl, ho0, hb⟩; refine ⟨_, rfl, ?_⟩; have n0_ := Aside0.mk (Kd.R_lower ho0 (below_size (by repeat (first | (with_reducible first | exact HB.out | apply below_alloc | apply pw_below_drewN | apply below_drew1) | exact HB.out)))); have n1_ := Aside0.mk (below_step (by repeat (first | (with_reducible first | exact HB.out | apply below_alloc | apply pw_below_drewN | apply below_drew1) | exact HB.out)) hb); clear HB; have HO77003 := n0_; have HB := n1_; clear n0_ n1_; (try clear hb); (try clear hb2); (try clear hk); (try clear hi); (try clear ho0)) | ((with_reducible refine gate_callee (f := 58) rfl ?_); refine goesL_ (some 13) rfl rfl Try.func58 (by kernel_rfl) rfl #[.slice A1 l1.length c1] rfl (by (try simp only [List.map_toArray, List.map_cons, List.map_nil]); first | done | rfl | (simp only [List.length_drop, List.length_take]; rfl)) ?_; (with_reducible refine (spec_gridOf.calls k _ _ l1 t77004 _ ?side1 ?side2 A5.out).mono ?_); (case side1 => repeat (first | exact (Kd.C_below HR1.out HB.out) | (with_reducible refine Kd.C_alloc ?_ _) | (with_reducible refine Kd.C_drewN ?_ _) | (with_reducible refine Kd.C_drew ?_))); (case side2 => exact HC1.out); rintro e w7 ⟨v77005, rfl, ho0, hb⟩; refine ⟨_, rfl, ?_⟩; have n0_ := Aside0.mk (Kd.R_elder' (by (with_reducible repeat (first | apply Kd.R_alloc | apply Kd.R_drewN | apply Kd.R_drew)); exact HO77003.out) (Kd.R_base ho0) hb); have n1_ := Aside0.mk (Kd.R_lower (Kd.R_new' ho0 (Kd.R_lt (by (with_reducible repeat (first | apply Kd.R_alloc | apply Kd.R_drewN | apply Kd.R_drew)); exact HO77003.out))) (below_size (by repeat (first | (with_reducible first | exact HB.out | apply below_alloc | apply pw_below_drewN | apply below_drew1) | exact HB.out)))); have n2_ := Aside0.mk (below_step (by repeat (first | (with_reducible first | exact HB.out | apply below_alloc | apply pw_below_drewN | apply below_drew1) | exact HB.out)) hb); clear HO77003; clear HB; have HO77003 := n0_; have HO77006 := n1_; have HB := n2_; clear n0_ n1_ n2_; (try clear hb); (try clear hb2); (try clear hk); (try clear hi); (try clear ho0)))
  go_loopg [9] k (fun kq v9 w' => ∃ (x7_1 : List Bool) (x9_1 : Int), v9 = .int .i64 x9_1 ∧ Aside0 (spec_combine.l0 kq a2 x7_1 t77004 x9_1 = some r) ∧ Aside0 (kq ≤ k) ∧ Aside0 (Kd.R Kd.bool 4 w' w.heap.size (fun k_ => some k_ ≠ (v77005 : Value).ownBlock) v77002 x7_1) ∧ Aside0 (Kd.R Kd.bool 4 w' w.heap.size (fun k_ => some k_ ≠ (v77002 : Value).ownBlock) v77005 t77004) ∧ Aside0 (Below w.heap.size w w'))
  case atStart => exact ⟨(t77001), (0), (by first | rfl | (simp; done) | (simp [*]; done)), H', ⟨Nat.le_refl _⟩, ⟨by (with_reducible repeat (first | apply Kd.R_alloc | apply Kd.R_drewN | apply Kd.R_drew)); exact Kd.R_mono HO77003.out (fun _ hk => hk.2)⟩, ⟨by (with_reducible repeat (first | apply Kd.R_alloc | apply Kd.R_drewN | apply Kd.R_drew)); exact Kd.R_mono HO77006.out (fun _ hk => hk.2)⟩, ⟨by repeat (first | (with_reducible first | exact HB.out | apply below_alloc | apply pw_below_drewN | apply below_drew1) | exact HB.out)⟩⟩
  case round =>
    clear H'
    try clear c1
    try clear p2
    try clear c5
    try clear c7
    obtain ⟨x7_1, x9_1, rfl, HA, HK1, HO_7, HO_8, HB⟩ := hrel
    cases gk with
    | zero => exact absurd HA.out (by simp [spec_combine.l0])
    | succ k1 =>
      have H := HA.out
      clear HA
      simp only [spec_combine.l0] at H
      by_cases c8 : x9_1 < (x7_1.length : Int)
      · rw [if_pos c8] at H
        have c8b0 : decide (x9_1 < (x7_1.length : Int)) = true := decide_eq_true c8
        clear c8
        by_cases c9 : a2 = 0
        · rw [if_pos c9] at H
          have c9b0 : (a2 == 0) = true := beq_iff_eq.mpr c9
          have c9b1 : (a2 != 0) = false := bne_eq_false_iff_eq.mpr c9
          clear c9
          by_cases c10 : 0 ≤ x9_1
          · rw [if_pos c10] at H
            have c10b0 : decide (0 ≤ x9_1) = true := decide_eq_true c10
            clear c10
            obtain ⟨bq11, hbq11⟩ : ∃ b_ : Bool, b_ = (rdOf false x7_1 x9_1) := ⟨_, rfl⟩
            replace H : (if bq11 = true then (spec_combine.l0 k1 a2 (x7_1.set (x9_1 : Int).toNat true) t77004 (wrap64 (x9_1 + 1))) else (if x9_1 < (t77004.length : Int) then (spec_combine.l0 k1 a2 (x7_1.set (x9_1 : Int).toNat (rdOf false t77004 x9_1)) t77004 (wrap64 (x9_1 + 1))) else (none))) = some r := by rw [← hbq11] at H; exact H
            have Nbq11 := Aside0.mk hbq11
            clear hbq11
            by_cases c12 : bq11 = true
            · subst c12
              have H1 : (spec_combine.l0 k1 a2 (x7_1.set (x9_1 : Int).toNat true) t77004 (wrap64 (x9_1 + 1))) = some r := by rw [if_pos rfl] at H; exact H
              clear H
              have H := H1
              clear H1
              obtain ⟨y77011, hy77011⟩ : ∃ y_ : List Bool, y_ = (x7_1.set (x9_1 : Int).toNat true) := ⟨_, rfl⟩
              replace H : (spec_combine.l0 k1 a2 y77011 t77004 (wrap64 (x9_1 + 1))) = some r := by first | (rw [hy77011]; with_reducible exact H) | (have H2_ := (Option.bind_some _ _).symm.trans H; rw [hy77011]; with_reducible exact H2_) | (have H2_ := (Option.bind_some _ _).symm.trans H; with_reducible exact H2_) | with_reducible exact H | (rw [hy77011]; exact H) | exact H
              have Ny77011 := Aside0.mk hy77011
              clear hy77011
              have H' := Aside0.mk H
              clear H
              obtain ⟨Ao14, co14, eo14⟩ := Kd.R_slice HO_7.out
              subst eo14
              have p77010 : 0 ≤ (x9_1 : Int) := of_decide_eq_true (by first | (with_reducible assumption) | assumption)
              have q77010 : x9_1 < (x7_1.length : Int) := of_decide_eq_true (by first | (with_reducible assumption) | assumption)
              obtain ⟨ad77010, e77010, hx77010_0⟩ := Kd.at_bool (Kd.R_reads' HO_7.out).2.2 x9_1 p77010 q77010
              (try rw [← Nbq11.out] at hx77010_0)
              cases e77010
              replace p77010 := eq_true p77010
              replace q77010 := eq_true q77010
              have p13 : 0 ≤ (x9_1 : Int) := of_decide_eq_true (by first | (with_reducible assumption) | assumption)
              have q13 : (x9_1 : Int) < ((x7_1.length : Int) : Int) := of_decide_eq_true (by first | (with_reducible assumption) | assumption)
              obtain ⟨go13, co13, eo13, gb13, gl13, cl13, HG13⟩ := Kd.R_form HO_7.out (by omega)
              (first | cases eo13 | (injection eo13 with ea_ en_ ec_; (first | subst ea_ | (injection ea_ with ea_; subst ea_)); subst ec_; clear en_))
              have GB13 := Aside0.mk gb13
              have GG13 := Aside0.mk HG13
              clear gb13 gl13 HG13
              (first | simp only [add_plain] at hx77010_0 | skip)
              obtain ⟨hx13_0, hf13_0⟩ := Kd.R_celln false HO_7.out (x9_1 : Int) p13 q13
              replace p13 := eq_true p13
              replace q13 := eq_true q13
              have HP15 := Kd.R_putg HO_7.out (x9_1 : Int) true
              go_wp2_with (first | ((with_reducible refine gate_store (t := 4) (p := 47) rfl ?_); refine store_event (t := 4) (p := 47) (v := ?vo_w16) (w1 := (wr.setCell ⟨go13, (x9_1 : Int).toNat, none⟩ (.bool true))) ?hg ?ho ?hn ?hr ?_; (case ho => rfl); (case hg => rfl); (case hn => rfl); (case hr => first | (go_simp; done) | (go_simp; rfl)); intro w16 hw; have hg : wr.grownBy w16 (some go13) := (by rw [hw]; exact HP15.2); have hp_ : Kd.R Kd.bool 4 w16 w.heap.size (fun k_ => some k_ ≠ (v77005 : Value).ownBlock) (.slice (some ⟨go13, 0, none⟩) x7_1.length co14) y77011 := (by rw [hw, Ny77011.out]; exact HP15.1); clear HP15; have n0_ := Aside0.mk (hp_); have n1_ := Aside0.mk (Kd.R_after (v := (.slice (some ⟨go13, 0, none⟩) x7_1.length co14)) (v1 := (.slice (some ⟨go13, 0, none⟩) x7_1.length co14)) (ok := (fun _ => True)) (by (with_reducible repeat (first | apply Kd.R_alloc | apply Kd.R_drewN | apply Kd.R_drew)); exact Kd.R_mono HO_8.out (fun _ hk => ⟨trivial, hk⟩)) hg (.inl rfl)); have n2_ := Aside0.mk ((by rw [hw]; exact below_set (HB.out) GB13.out : Below w.heap.size w w16)); clear HO_7; clear HO_8; clear HB; have HO_7 := n0_; have HO_8 := n1_; have HB := n2_; clear n0_ n1_ n2_; clear hg hw hp_))
              go_roundg k1
              case measure => have := HK1.out; omega
              case rel => exact ⟨(y77011), (wrap64 (x9_1 + 1)), (by first | rfl | (simp; done) | (simp [*]; done)), H', ⟨by have := HK1.out; omega⟩, ⟨by (with_reducible repeat (first | apply Kd.R_alloc | apply Kd.R_drewN | apply Kd.R_drew)); exact HO_7.out⟩, ⟨by (with_reducible repeat (first | apply Kd.R_alloc | apply Kd.R_drewN | apply Kd.R_drew)); exact Kd.R_mono HO_8.out (fun _ hk => hk.2)⟩, ⟨by repeat (first | (with_reducible first | exact HB.out | apply below_alloc | apply pw_below_drewN | apply below_drew1) | exact HB.out)⟩⟩
            · replace c12 := Bool.eq_false_iff.mpr c12
              subst c12
              have H1 : (if x9_1 < (t77004.length : Int) then (spec_combine.l0 k1 a2 (x7_1.set (x9_1 : Int).toNat (rdOf false t77004 x9_1)) t77004 (wrap64 (x9_1 + 1))) else (none)) = some r := by rw [if_neg (show ¬ (false = true) by decide)] at H; exact H
              clear H
              have H := H1
              clear H1
              by_cases c17 : x9_1 < (t77004.length : Int)
              · rw [if_pos c17] at H
                have c17b0 : decide (x9_1 < (t77004.length : Int)) = true := decide_eq_true c17
                clear c17
                obtain ⟨y77013, hy77013⟩ : ∃ y_ : List Bool, y_ = (x7_1.set (x9_1 : Int).toNat (rdOf false t77004 x9_1)) := ⟨_, rfl⟩
                replace H : (spec_combine.l0 k1 a2 y77013 t77004 (wrap64 (x9_1 + 1))) = some r := by first | (rw [hy77013]; with_reducible exact H) | (have H2_ := (Option.bind_some _ _).symm.trans H; rw [hy77013]; with_reducible exact H2_) | (have H2_ := (Option.bind_some _ _).symm.trans H; with_reducible exact H2_) | with_reducible exact H | (rw [hy77013]; exact H) | exact H
                have Ny77013 := Aside0.mk hy77013
                clear hy77013
                have H' := Aside0.mk H
                clear H
                obtain ⟨Ao19, co19, eo19⟩ := Kd.R_slice HO_7.out
                subst eo19
                have p77010 : 0 ≤ (x9_1 : Int) := of_decide_eq_true (by first | (with_reducible assumption) | assumption)
                have q77010 : x9_1 < (x7_1.length : Int) := of_decide_eq_true (by first | (with_reducible assumption) | assumption)
                obtain ⟨ad77010, e77010, hx77010_0⟩ := Kd.at_bool (Kd.R_reads' HO_7.out).2.2 x9_1 p77010 q77010
                (try rw [← Nbq11.out] at hx77010_0)
                cases e77010
                replace p77010 := eq_true p77010
                replace q77010 := eq_true q77010
                obtain ⟨Ao20, co20, eo20⟩ := Kd.R_slice HO_8.out
                subst eo20
                have p77012 : 0 ≤ (x9_1 : Int) := of_decide_eq_true (by first | (with_reducible assumption) | assumption)
                have q77012 : x9_1 < (t77004.length : Int) := of_decide_eq_true (by first | (with_reducible assumption) | assumption)
                obtain ⟨ad77012, e77012, hx77012_0⟩ := Kd.at_bool (Kd.R_reads' HO_8.out).2.2 x9_1 p77012 q77012
                (try rw [← Nbq11.out] at hx77012_0)
                cases e77012
                replace p77012 := eq_true p77012
                replace q77012 := eq_true q77012
                have p18 : 0 ≤ (x9_1 : Int) := of_decide_eq_true (by first | (with_reducible assumption) | assumption)
                have q18 : (x9_1 : Int) < ((x7_1.length : Int) : Int) := of_decide_eq_true (by first | (with_reducible assumption) | assumption)
                obtain ⟨go18, co18, eo18, gb18, gl18, cl18, HG18⟩ := Kd.R_form HO_7.out (by omega)
                (first | cases eo18 | (injection eo18 with ea_ en_ ec_; (first | subst ea_ | (injection ea_ with ea_; subst ea_)); subst ec_; clear en_))
                have GB18 := Aside0.mk gb18
                have GG18 := Aside0.mk HG18
                clear gb18 gl18 HG18
                (first | simp only [add_plain] at hx77010_0 | skip)
                obtain ⟨hx18_0, hf18_0⟩ := Kd.R_celln false HO_7.out (x9_1 : Int) p18 q18
                replace p18 := eq_true p18
                replace q18 := eq_true q18
                have HP21 := Kd.R_putg HO_7.out (x9_1 : Int) (rdOf false t77004 x9_1)
                go_wp2_with (first | ((with_reducible refine gate_store (t := 4) (p := 47) rfl ?_); refine store_event (t := 4) (p := 47) (v := ?vo_w22) (w1 := (wr.setCell ⟨go18, (x9_1 : Int).toNat, none⟩ (.bool (rdOf false t77004 x9_1)))) ?hg ?ho ?hn ?hr ?_; (case ho => rfl); (case hg => rfl); (case hn => rfl); (case hr => first | (go_simp; done) | (go_simp; rfl)); intro w22 hw; have hg : wr.grownBy w22 (some go18) := (by rw [hw]; exact HP21.2); have hp_ : Kd.R Kd.bool 4 w22 w.heap.size (fun k_ => some k_ ≠ (.slice (some ad77012) t77004.length co20 : Value).ownBlock) (.slice (some ⟨go18, 0, none⟩) x7_1.length co19) y77013 := (by rw [hw, Ny77013.out]; exact HP21.1); clear HP21; have n0_ := Aside0.mk (hp_); have n1_ := Aside0.mk (Kd.R_after (v := (.slice (some ⟨go18, 0, none⟩) x7_1.length co19)) (v1 := (.slice (some ⟨go18, 0, none⟩) x7_1.length co19)) (ok := (fun _ => True)) (by (with_reducible repeat (first | apply Kd.R_alloc | apply Kd.R_drewN | apply Kd.R_drew)); exact Kd.R_mono HO_8.out (fun _ hk => ⟨trivial, hk⟩)) hg (.inl rfl)); have n2_ := Aside0.mk ((by rw [hw]; exact below_set (HB.out) GB18.out : Below w.heap.size w w22)); clear HO_7; clear HO_8; clear HB; have HO_7 := n0_; have HO_8 := n1_; have HB := n2_; clear n0_ n1_ n2_; clear hg hw hp_))
                go_roundg k1
                case measure => have := HK1.out; omega
                case rel => exact ⟨(y77013), (wrap64 (x9_1 + 1)), (by first | rfl | (simp; done) | (simp [*]; done)), H', ⟨by have := HK1.out; omega⟩, ⟨by (with_reducible repeat (first | apply Kd.R_alloc | apply Kd.R_drewN | apply Kd.R_drew)); exact HO_7.out⟩, ⟨by (with_reducible repeat (first | apply Kd.R_alloc | apply Kd.R_drewN | apply Kd.R_drew)); exact Kd.R_mono HO_8.out (fun _ hk => hk.2)⟩, ⟨by repeat (first | (with_reducible first | exact HB.out | apply below_alloc | apply pw_below_drewN | apply below_drew1) | exact HB.out)⟩⟩
              · rw [if_neg c17] at H
                exact absurd H (by simp)
          · rw [if_neg c10] at H
            exact absurd H (by simp)
        · rw [if_neg c9] at H
          have c9b0 : (a2 == 0) = false := beq_eq_false_iff_ne.mpr c9
          have c9b1 : (a2 != 0) = true := bne_iff_ne.mpr c9
          by_cases c23 : a2 = 1
          · rw [if_pos c23] at H
            have c23b0 : (a2 == 1) = true := beq_iff_eq.mpr c23
            have c23b1 : (a2 != 1) = false := bne_eq_false_iff_eq.mpr c23
            clear c23
            by_cases c24 : 0 ≤ x9_1
            · rw [if_pos c24] at H
              have c24b0 : decide (0 ≤ x9_1) = true := decide_eq_true c24
              clear c24
              obtain ⟨bq25, hbq25⟩ : ∃ b_ : Bool, b_ = (rdOf false x7_1 x9_1) := ⟨_, rfl⟩
              replace H : (if bq25 = true then (if x9_1 < (t77004.length : Int) then (spec_combine.l0 k1 a2 (x7_1.set (x9_1 : Int).toNat (rdOf false t77004 x9_1)) t77004 (wrap64 (x9_1 + 1))) else (none)) else (spec_combine.l0 k1 a2 (x7_1.set (x9_1 : Int).toNat false) t77004 (wrap64 (x9_1 + 1)))) = some r := by rw [← hbq25] at H; exact H
              have Nbq25 := Aside0.mk hbq25
              clear hbq25
              by_cases c26 : bq25 = true
              · subst c26
                have H1 : (if x9_1 < (t77004.length : Int) then (spec_combine.l0 k1 a2 (x7_1.set (x9_1 : Int).toNat (rdOf false t77004 x9_1)) t77004 (wrap64 (x9_1 + 1))) else (none)) = some r := by rw [if_pos rfl] at H; exact H
                clear H
                have H := H1
                clear H1
                by_cases c27 : x9_1 < (t77004.length : Int)
                · rw [if_pos c27] at H
                  have c27b0 : decide (x9_1 < (t77004.length : Int)) = true := decide_eq_true c27
                  clear c27
                  obtain ⟨y77016, hy77016⟩ : ∃ y_ : List Bool, y_ = (x7_1.set (x9_1 : Int).toNat (rdOf false t77004 x9_1)) := ⟨_, rfl⟩
                  replace H : (spec_combine.l0 k1 a2 y77016 t77004 (wrap64 (x9_1 + 1))) = some r := by first | (rw [hy77016]; with_reducible exact H) | (have H2_ := (Option.bind_some _ _).symm.trans H; rw [hy77016]; with_reducible exact H2_) | (have H2_ := (Option.bind_some _ _).symm.trans H; with_reducible exact H2_) | with_reducible exact H | (rw [hy77016]; exact H) | exact H
                  have Ny77016 := Aside0.mk hy77016
                  clear hy77016
                  have H' := Aside0.mk H
                  clear H
                  obtain ⟨Ao29, co29, eo29⟩ := Kd.R_slice HO_7.out
                  subst eo29
                  have p77014 : 0 ≤ (x9_1 : Int) := of_decide_eq_true (by first | (with_reducible assumption) | assumption)
                  have q77014 : x9_1 < (x7_1.length : Int) := of_decide_eq_true (by first | (with_reducible assumption) | assumption)
                  obtain ⟨ad77014, e77014, hx77014_0⟩ := Kd.at_bool (Kd.R_reads' HO_7.out).2.2 x9_1 p77014 q77014
                  (try rw [← Nbq25.out] at hx77014_0)
                  cases e77014
                  replace p77014 := eq_true p77014
                  replace q77014 := eq_true q77014
                  obtain ⟨Ao30, co30, eo30⟩ := Kd.R_slice HO_8.out
                  subst eo30
                  have p77015 : 0 ≤ (x9_1 : Int) := of_decide_eq_true (by first | (with_reducible assumption) | assumption)
                  have q77015 : x9_1 < (t77004.length : Int) := of_decide_eq_true (by first | (with_reducible assumption) | assumption)
                  obtain ⟨ad77015, e77015, hx77015_0⟩ := Kd.at_bool (Kd.R_reads' HO_8.out).2.2 x9_1 p77015 q77015
                  (try rw [← Nbq25.out] at hx77015_0)
                  cases e77015
                  replace p77015 := eq_true p77015
                  replace q77015 := eq_true q77015
                  have p28 : 0 ≤ (x9_1 : Int) := of_decide_eq_true (by first | (with_reducible assumption) | assumption)
                  have q28 : (x9_1 : Int) < ((x7_1.length : Int) : Int) := of_decide_eq_true (by first | (with_reducible assumption) | assumption)
                  obtain ⟨go28, co28, eo28, gb28, gl28, cl28, HG28⟩ := Kd.R_form HO_7.out (by omega)
                  (first | cases eo28 | (injection eo28 with ea_ en_ ec_; (first | subst ea_ | (injection ea_ with ea_; subst ea_)); subst ec_; clear en_))
                  have GB28 := Aside0.mk gb28
                  have GG28 := Aside0.mk HG28
                  clear gb28 gl28 HG28
                  (first | simp only [add_plain] at hx77014_0 | skip)
                  obtain ⟨hx28_0, hf28_0⟩ := Kd.R_celln false HO_7.out (x9_1 : Int) p28 q28
                  replace p28 := eq_true p28
                  replace q28 := eq_true q28
                  have HP31 := Kd.R_putg HO_7.out (x9_1 : Int) (rdOf false t77004 x9_1)
                  go_wp2_with (first | ((with_reducible refine gate_store (t := 4) (p := 62) rfl ?_); refine store_event (t := 4) (p := 62) (v := ?vo_w32) (w1 := (wr.setCell ⟨go28, (x9_1 : Int).toNat, none⟩ (.bool (rdOf false t77004 x9_1)))) ?hg ?ho ?hn ?hr ?_; (case ho => rfl); (case hg => rfl); (case hn => rfl); (case hr => first | (go_simp; done) | (go_simp; rfl)); intro w32 hw; have hg : wr.grownBy w32 (some go28) := (by rw [hw]; exact HP31.2); have hp_ : Kd.R Kd.bool 4 w32 w.heap.size (fun k_ => some k_ ≠ (.slice (some ad77015) t77004.length co30 : Value).ownBlock) (.slice (some ⟨go28, 0, none⟩) x7_1.length co29) y77016 := (by rw [hw, Ny77016.out]; exact HP31.1); clear HP31; have n0_ := Aside0.mk (hp_); have n1_ := Aside0.mk (Kd.R_after (v := (.slice (some ⟨go28, 0, none⟩) x7_1.length co29)) (v1 := (.slice (some ⟨go28, 0, none⟩) x7_1.length co29)) (ok := (fun _ => True)) (by (with_reducible repeat (first | apply Kd.R_alloc | apply Kd.R_drewN | apply Kd.R_drew)); exact Kd.R_mono HO_8.out (fun _ hk => ⟨trivial, hk⟩)) hg (.inl rfl)); have n2_ := Aside0.mk ((by rw [hw]; exact below_set (HB.out) GB28.out : Below w.heap.size w w32)); clear HO_7; clear HO_8; clear HB; have HO_7 := n0_; have HO_8 := n1_; have HB := n2_; clear n0_ n1_ n2_; clear hg hw hp_))
                  go_roundg k1
                  case measure => have := HK1.out; omega
                  case rel => exact ⟨(y77016), (wrap64 (x9_1 + 1)), (by first | rfl | (simp; done) | (simp [*]; done)), H', ⟨by have := HK1.out; omega⟩, ⟨by (with_reducible repeat (first | apply Kd.R_alloc | apply Kd.R_drewN | apply Kd.R_drew)); exact HO_7.out⟩, ⟨by (with_reducible repeat (first | apply Kd.R_alloc | apply Kd.R_drewN | apply Kd.R_drew)); exact Kd.R_mono HO_8.out (fun _ hk => hk.2)⟩, ⟨by repeat (first | (with_reducible first | exact HB.out | apply below_alloc | apply pw_below_drewN | apply below_drew1) | exact HB.out)⟩⟩
                · rw [if_neg c27] at H
                  exact absurd H (by simp)
              · replace c26 := Bool.eq_false_iff.mpr c26
                subst c26
                have H1 : (spec_combine.l0 k1 a2 (x7_1.set (x9_1 : Int).toNat false) t77004 (wrap64 (x9_1 + 1))) = some r := by rw [if_neg (show ¬ (false = true) by decide)] at H; exact H
                clear H
                have H := H1
                clear H1
                obtain ⟨y77017, hy77017⟩ : ∃ y_ : List Bool, y_ = (x7_1.set (x9_1 : Int).toNat false) := ⟨_, rfl⟩
                replace H : (spec_combine.l0 k1 a2 y77017 t77004 (wrap64 (x9_1 + 1))) = some r := by first | (rw [hy77017]; with_reducible exact H) | (have H2_ := (Option.bind_some _ _).symm.trans H; rw [hy77017]; with_reducible exact H2_) | (have H2_ := (Option.bind_some _ _).symm.trans H; with_reducible exact H2_) | with_reducible exact H | (rw [hy77017]; exact H) | exact H
                have Ny77017 := Aside0.mk hy77017
                clear hy77017
                have H' := Aside0.mk H
                clear H
                obtain ⟨Ao34, co34, eo34⟩ := Kd.R_slice HO_7.out
                subst eo34
                have p77014 : 0 ≤ (x9_1 : Int) := of_decide_eq_true (by first | (with_reducible assumption) | assumption)
                have q77014 : x9_1 < (x7_1.length : Int) := of_decide_eq_true (by first | (with_reducible assumption) | assumption)
                obtain ⟨ad77014, e77014, hx77014_0⟩ := Kd.at_bool (Kd.R_reads' HO_7.out).2.2 x9_1 p77014 q77014
                (try rw [← Nbq25.out] at hx77014_0)
                cases e77014
                replace p77014 := eq_true p77014
                replace q77014 := eq_true q77014
                have p33 : 0 ≤ (x9_1 : Int) := of_decide_eq_true (by first | (with_reducible assumption) | assumption)
                have q33 : (x9_1 : Int) < ((x7_1.length : Int) : Int) := of_decide_eq_true (by first | (with_reducible assumption) | assumption)
                obtain ⟨go33, co33, eo33, gb33, gl33, cl33, HG33⟩ := Kd.R_form HO_7.out (by omega)
                (first | cases eo33 | (injection eo33 with ea_ en_ ec_; (first | subst ea_ | (injection ea_ with ea_; subst ea_)); subst ec_; clear en_))
                have GB33 := Aside0.mk gb33
                have GG33 := Aside0.mk HG33
                clear gb33 gl33 HG33
                (first | simp only [add_plain] at hx77014_0 | skip)
                obtain ⟨hx33_0, hf33_0⟩ := Kd.R_celln false HO_7.out (x9_1 : Int) p33 q33
                replace p33 := eq_true p33
                replace q33 := eq_true q33
                have HP35 := Kd.R_putg HO_7.out (x9_1 : Int) false
                go_wp2_with (first | ((with_reducible refine gate_store (t := 4) (p := 62) rfl ?_); refine store_event (t := 4) (p := 62) (v := ?vo_w36) (w1 := (wr.setCell ⟨go33, (x9_1 : Int).toNat, none⟩ (.bool false))) ?hg ?ho ?hn ?hr ?_; (case ho => rfl); (case hg => rfl); (case hn => rfl); (case hr => first | (go_simp; done) | (go_simp; rfl)); intro w36 hw; have hg : wr.grownBy w36 (some go33) := (by rw [hw]; exact HP35.2); have hp_ : Kd.R Kd.bool 4 w36 w.heap.size (fun k_ => some k_ ≠ (v77005 : Value).ownBlock) (.slice (some ⟨go33, 0, none⟩) x7_1.length co34) y77017 := (by rw [hw, Ny77017.out]; exact HP35.1); clear HP35; have n0_ := Aside0.mk (hp_); have n1_ := Aside0.mk (Kd.R_after (v := (.slice (some ⟨go33, 0, none⟩) x7_1.length co34)) (v1 := (.slice (some ⟨go33, 0, none⟩) x7_1.length co34)) (ok := (fun _ => True)) (by (with_reducible repeat (first | apply Kd.R_alloc | apply Kd.R_drewN | apply Kd.R_drew)); exact Kd.R_mono HO_8.out (fun _ hk => ⟨trivial, hk⟩)) hg (.inl rfl)); have n2_ := Aside0.mk ((by rw [hw]; exact below_set (HB.out) GB33.out : Below w.heap.size w w36)); clear HO_7; clear HO_8; clear HB; have HO_7 := n0_; have HO_8 := n1_; have HB := n2_; clear n0_ n1_ n2_; clear hg hw hp_))
                go_roundg k1
                case measure => have := HK1.out; omega
                case rel => exact ⟨(y77017), (wrap64 (x9_1 + 1)), (by first | rfl | (simp; done) | (simp [*]; done)), H', ⟨by have := HK1.out; omega⟩, ⟨by (with_reducible repeat (first | apply Kd.R_alloc | apply Kd.R_drewN | apply Kd.R_drew)); exact HO_7.out⟩, ⟨by (with_reducible repeat (first | apply Kd.R_alloc | apply Kd.R_drewN | apply Kd.R_drew)); exact Kd.R_mono HO_8.out (fun _ hk => hk.2)⟩, ⟨by repeat (first | (with_reducible first | exact HB.out | apply below_alloc | apply pw_below_drewN | apply below_drew1) | exact HB.out)⟩⟩
            · rw [if_neg c24] at H
              exact absurd H (by simp)
          · rw [if_neg c23] at H
            have c23b0 : (a2 == 1) = false := beq_eq_false_iff_ne.mpr c23
            have c23b1 : (a2 != 1) = true := bne_iff_ne.mpr c23
            by_cases c37 : a2 = 2
            · rw [if_pos c37] at H
              have c37b0 : (a2 == 2) = true := beq_iff_eq.mpr c37
              have c37b1 : (a2 != 2) = false := bne_eq_false_iff_eq.mpr c37
              clear c37
              by_cases c38 : 0 ≤ x9_1
              · rw [if_pos c38] at H
                have c38b0 : decide (0 ≤ x9_1) = true := decide_eq_true c38
                clear c38
                obtain ⟨bq39, hbq39⟩ : ∃ b_ : Bool, b_ = (rdOf false x7_1 x9_1) := ⟨_, rfl⟩
                replace H : (if bq39 = true then (if x9_1 < (t77004.length : Int) then (spec_combine.l0 k1 a2 (x7_1.set (x9_1 : Int).toNat (!(rdOf false t77004 x9_1))) t77004 (wrap64 (x9_1 + 1))) else (none)) else (spec_combine.l0 k1 a2 (x7_1.set (x9_1 : Int).toNat false) t77004 (wrap64 (x9_1 + 1)))) = some r := by rw [← hbq39] at H; exact H
                have Nbq39 := Aside0.mk hbq39
                clear hbq39
                by_cases c40 : bq39 = true
                · subst c40
                  have H1 : (if x9_1 < (t77004.length : Int) then (spec_combine.l0 k1 a2 (x7_1.set (x9_1 : Int).toNat (!(rdOf false t77004 x9_1))) t77004 (wrap64 (x9_1 + 1))) else (none)) = some r := by rw [if_pos rfl] at H; exact H
                  clear H
                  have H := H1
                  clear H1
                  by_cases c41 : x9_1 < (t77004.length : Int)
                  · rw [if_pos c41] at H
                    have c41b0 : decide (x9_1 < (t77004.length : Int)) = true := decide_eq_true c41
                    clear c41
                    obtain ⟨y77020, hy77020⟩ : ∃ y_ : List Bool, y_ = (x7_1.set (x9_1 : Int).toNat (!(rdOf false t77004 x9_1))) := ⟨_, rfl⟩
                    replace H : (spec_combine.l0 k1 a2 y77020 t77004 (wrap64 (x9_1 + 1))) = some r := by first | (rw [hy77020]; with_reducible exact H) | (have H2_ := (Option.bind_some _ _).symm.trans H; rw [hy77020]; with_reducible exact H2_) | (have H2_ := (Option.bind_some _ _).symm.trans H; with_reducible exact H2_) | with_reducible exact H | (rw [hy77020]; exact H) | exact H
                    have Ny77020 := Aside0.mk hy77020
                    clear hy77020
                    have H' := Aside0.mk H
                    clear H
                    obtain ⟨Ao43, co43, eo43⟩ := Kd.R_slice HO_7.out
                    subst eo43
                    have p77018 : 0 ≤ (x9_1 : Int) := of_decide_eq_true (by first | (with_reducible assumption) | assumption)
                    have q77018 : x9_1 < (x7_1.length : Int) := of_decide_eq_true (by first | (with_reducible assumption) | assumption)
                    obtain ⟨ad77018, e77018, hx77018_0⟩ := Kd.at_bool (Kd.R_reads' HO_7.out).2.2 x9_1 p77018 q77018
                    (try rw [← Nbq39.out] at hx77018_0)
                    cases e77018
                    replace p77018 := eq_true p77018
                    replace q77018 := eq_true q77018
                    obtain ⟨Ao44, co44, eo44⟩ := Kd.R_slice HO_8.out
                    subst eo44
                    have p77019 : 0 ≤ (x9_1 : Int) := of_decide_eq_true (by first | (with_reducible assumption) | assumption)
                    have q77019 : x9_1 < (t77004.length : Int) := of_decide_eq_true (by first | (with_reducible assumption) | assumption)
                    obtain ⟨ad77019, e77019, hx77019_0⟩ := Kd.at_bool (Kd.R_reads' HO_8.out).2.2 x9_1 p77019 q77019
                    (try rw [← Nbq39.out] at hx77019_0)
                    cases e77019
                    replace p77019 := eq_true p77019
                    replace q77019 := eq_true q77019
                    have p42 : 0 ≤ (x9_1 : Int) := of_decide_eq_true (by first | (with_reducible assumption) | assumption)
                    have q42 : (x9_1 : Int) < ((x7_1.length : Int) : Int) := of_decide_eq_true (by first | (with_reducible assumption) | assumption)
                    obtain ⟨go42, co42, eo42, gb42, gl42, cl42, HG42⟩ := Kd.R_form HO_7.out (by omega)
                    (first | cases eo42 | (injection eo42 with ea_ en_ ec_; (first | subst ea_ | (injection ea_ with ea_; subst ea_)); subst ec_; clear en_))
                    have GB42 := Aside0.mk gb42
                    have GG42 := Aside0.mk HG42
                    clear gb42 gl42 HG42
                    (first | simp only [add_plain] at hx77018_0 | skip)
                    obtain ⟨hx42_0, hf42_0⟩ := Kd.R_celln false HO_7.out (x9_1 : Int) p42 q42
                    replace p42 := eq_true p42
                    replace q42 := eq_true q42
                    have HP45 := Kd.R_putg HO_7.out (x9_1 : Int) (!(rdOf false t77004 x9_1))
                    go_wp2_with (first | ((with_reducible refine gate_store (t := 4) (p := 78) rfl ?_); refine store_event (t := 4) (p := 78) (v := ?vo_w46) (w1 := (wr.setCell ⟨go42, (x9_1 : Int).toNat, none⟩ (.bool (!(rdOf false t77004 x9_1))))) ?hg ?ho ?hn ?hr ?_; (case ho => rfl); (case hg => rfl); (case hn => rfl); (case hr => first | (go_simp; done) | (go_simp; rfl)); intro w46 hw; have hg : wr.grownBy w46 (some go42) := (by rw [hw]; exact HP45.2); have hp_ : Kd.R Kd.bool 4 w46 w.heap.size (fun k_ => some k_ ≠ (.slice (some ad77019) t77004.length co44 : Value).ownBlock) (.slice (some ⟨go42, 0, none⟩) x7_1.length co43) y77020 := (by rw [hw, Ny77020.out]; exact HP45.1); clear HP45; have n0_ := Aside0.mk (hp_); have n1_ := Aside0.mk (Kd.R_after (v := (.slice (some ⟨go42, 0, none⟩) x7_1.length co43)) (v1 := (.slice (some ⟨go42, 0, none⟩) x7_1.length co43)) (ok := (fun _ => True)) (by (with_reducible repeat (first | apply Kd.R_alloc | apply Kd.R_drewN | apply Kd.R_drew)); exact Kd.R_mono HO_8.out (fun _ hk => ⟨trivial, hk⟩)) hg (.inl rfl)); have n2_ := Aside0.mk ((by rw [hw]; exact below_set (HB.out) GB42.out : Below w.heap.size w w46)); clear HO_7; clear HO_8; clear HB; have HO_7 := n0_; have HO_8 := n1_; have HB := n2_; clear n0_ n1_ n2_; clear hg hw hp_))
                    go_roundg k1
                    case measure => have := HK1.out; omega
                    case rel => exact ⟨(y77020), (wrap64 (x9_1 + 1)), (by first | rfl | (simp; done) | (simp [*]; done)), H', ⟨by have := HK1.out; omega⟩, ⟨by (with_reducible repeat (first | apply Kd.R_alloc | apply Kd.R_drewN | apply Kd.R_drew)); exact HO_7.out⟩, ⟨by (with_reducible repeat (first | apply Kd.R_alloc | apply Kd.R_drewN | apply Kd.R_drew)); exact Kd.R_mono HO_8.out (fun _ hk => hk.2)⟩, ⟨by repeat (first | (with_reducible first | exact HB.out | apply below_alloc | apply pw_below_drewN | apply below_drew1) | exact HB.out)⟩⟩
                  · rw [if_neg c41] at H
                    exact absurd H (by simp)
                · replace c40 := Bool.eq_false_iff.mpr c40
                  subst c40
                  have H1 : (spec_combine.l0 k1 a2 (x7_1.set (x9_1 : Int).toNat false) t77004 (wrap64 (x9_1 + 1))) = some r := by rw [if_neg (show ¬ (false = true) by decide)] at H; exact H
                  clear H
                  have H := H1
                  clear H1
                  obtain ⟨y77021, hy77021⟩ : ∃ y_ : List Bool, y_ = (x7_1.set (x9_1 : Int).toNat false) := ⟨_, rfl⟩
                  replace H : (spec_combine.l0 k1 a2 y77021 t77004 (wrap64 (x9_1 + 1))) = some r := by first | (rw [hy77021]; with_reducible exact H) | (have H2_ := (Option.bind_some _ _).symm.trans H; rw [hy77021]; with_reducible exact H2_) | (have H2_ := (Option.bind_some _ _).symm.trans H; with_reducible exact H2_) | with_reducible exact H | (rw [hy77021]; exact H) | exact H
                  have Ny77021 := Aside0.mk hy77021
                  clear hy77021
                  have H' := Aside0.mk H
                  clear H
                  obtain ⟨Ao48, co48, eo48⟩ := Kd.R_slice HO_7.out
                  subst eo48
                  have p77018 : 0 ≤ (x9_1 : Int) := of_decide_eq_true (by first | (with_reducible assumption) | assumption)
                  have q77018 : x9_1 < (x7_1.length : Int) := of_decide_eq_true (by first | (with_reducible assumption) | assumption)
                  obtain ⟨ad77018, e77018, hx77018_0⟩ := Kd.at_bool (Kd.R_reads' HO_7.out).2.2 x9_1 p77018 q77018
                  (try rw [← Nbq39.out] at hx77018_0)
                  cases e77018
                  replace p77018 := eq_true p77018
                  replace q77018 := eq_true q77018
                  have p47 : 0 ≤ (x9_1 : Int) := of_decide_eq_true (by first | (with_reducible assumption) | assumption)
                  have q47 : (x9_1 : Int) < ((x7_1.length : Int) : Int) := of_decide_eq_true (by first | (with_reducible assumption) | assumption)
                  obtain ⟨go47, co47, eo47, gb47, gl47, cl47, HG47⟩ := Kd.R_form HO_7.out (by omega)
                  (first | cases eo47 | (injection eo47 with ea_ en_ ec_; (first | subst ea_ | (injection ea_ with ea_; subst ea_)); subst ec_; clear en_))
                  have GB47 := Aside0.mk gb47
                  have GG47 := Aside0.mk HG47
                  clear gb47 gl47 HG47
                  (first | simp only [add_plain] at hx77018_0 | skip)
                  obtain ⟨hx47_0, hf47_0⟩ := Kd.R_celln false HO_7.out (x9_1 : Int) p47 q47
                  replace p47 := eq_true p47
                  replace q47 := eq_true q47
                  have HP49 := Kd.R_putg HO_7.out (x9_1 : Int) false
                  go_wp2_with (first | ((with_reducible refine gate_store (t := 4) (p := 78) rfl ?_); refine store_event (t := 4) (p := 78) (v := ?vo_w50) (w1 := (wr.setCell ⟨go47, (x9_1 : Int).toNat, none⟩ (.bool false))) ?hg ?ho ?hn ?hr ?_; (case ho => rfl); (case hg => rfl); (case hn => rfl); (case hr => first | (go_simp; done) | (go_simp; rfl)); intro w50 hw; have hg : wr.grownBy w50 (some go47) := (by rw [hw]; exact HP49.2); have hp_ : Kd.R Kd.bool 4 w50 w.heap.size (fun k_ => some k_ ≠ (v77005 : Value).ownBlock) (.slice (some ⟨go47, 0, none⟩) x7_1.length co48) y77021 := (by rw [hw, Ny77021.out]; exact HP49.1); clear HP49; have n0_ := Aside0.mk (hp_); have n1_ := Aside0.mk (Kd.R_after (v := (.slice (some ⟨go47, 0, none⟩) x7_1.length co48)) (v1 := (.slice (some ⟨go47, 0, none⟩) x7_1.length co48)) (ok := (fun _ => True)) (by (with_reducible repeat (first | apply Kd.R_alloc | apply Kd.R_drewN | apply Kd.R_drew)); exact Kd.R_mono HO_8.out (fun _ hk => ⟨trivial, hk⟩)) hg (.inl rfl)); have n2_ := Aside0.mk ((by rw [hw]; exact below_set (HB.out) GB47.out : Below w.heap.size w w50)); clear HO_7; clear HO_8; clear HB; have HO_7 := n0_; have HO_8 := n1_; have HB := n2_; clear n0_ n1_ n2_; clear hg hw hp_))
                  go_roundg k1
                  case measure => have := HK1.out; omega
                  case rel => exact ⟨(y77021), (wrap64 (x9_1 + 1)), (by first | rfl | (simp; done) | (simp [*]; done)), H', ⟨by have := HK1.out; omega⟩, ⟨by (with_reducible repeat (first | apply Kd.R_alloc | apply Kd.R_drewN | apply Kd.R_drew)); exact HO_7.out⟩, ⟨by (with_reducible repeat (first | apply Kd.R_alloc | apply Kd.R_drewN | apply Kd.R_drew)); exact Kd.R_mono HO_8.out (fun _ hk => hk.2)⟩, ⟨by repeat (first | (with_reducible first | exact HB.out | apply below_alloc | apply pw_below_drewN | apply below_drew1) | exact HB.out)⟩⟩
              · rw [if_neg c38] at H
                exact absurd H (by simp)
            · rw [if_neg c37] at H
              have c37b0 : (a2 == 2) = false := beq_eq_false_iff_ne.mpr c37
              have c37b1 : (a2 != 2) = true := bne_iff_ne.mpr c37
              by_cases c51 : 0 ≤ x9_1
              · rw [if_pos c51] at H
                have c51b0 : decide (0 ≤ x9_1) = true := decide_eq_true c51
                clear c51
                by_cases c52 : x9_1 < (t77004.length : Int)
                · rw [if_pos c52] at H
                  have c52b0 : decide (x9_1 < (t77004.length : Int)) = true := decide_eq_true c52
                  clear c52
                  obtain ⟨y77024, hy77024⟩ : ∃ y_ : List Bool, y_ = (x7_1.set (x9_1 : Int).toNat ((rdOf false x7_1 x9_1) != (rdOf false t77004 x9_1))) := ⟨_, rfl⟩
                  replace H : (spec_combine.l0 k1 a2 y77024 t77004 (wrap64 (x9_1 + 1))) = some r := by first | (rw [hy77024]; with_reducible exact H) | (have H2_ := (Option.bind_some _ _).symm.trans H; rw [hy77024]; with_reducible exact H2_) | (have H2_ := (Option.bind_some _ _).symm.trans H; with_reducible exact H2_) | with_reducible exact H | (rw [hy77024]; exact H) | exact H
                  have Ny77024 := Aside0.mk hy77024
                  clear hy77024
                  have H' := Aside0.mk H
                  clear H
                  obtain ⟨Ao54, co54, eo54⟩ := Kd.R_slice HO_7.out
                  subst eo54
                  try go_wp2
                  have n0_ := Aside0.mk (Kd.R_drew HO_7.out)
                  have n1_ := Aside0.mk (Kd.R_drew HO_8.out)
                  have n2_ := Aside0.mk (below_drew1 HB.out)
                  clear HO_7
                  clear HO_8
                  clear HB
                  have HO_7 := n0_
                  have HO_8 := n1_
                  have HB := n2_
                  clear n0_ n1_ n2_
                  have p77022 : 0 ≤ (x9_1 : Int) := of_decide_eq_true (by first | (with_reducible assumption) | assumption)
                  have q77022 : x9_1 < (x7_1.length : Int) := of_decide_eq_true (by first | (with_reducible assumption) | assumption)
                  obtain ⟨ad77022, e77022, hx77022_0⟩ := Kd.at_bool (Kd.R_reads' HO_7.out).2.2 x9_1 p77022 q77022
                  cases e77022
                  replace p77022 := eq_true p77022
                  replace q77022 := eq_true q77022
                  obtain ⟨Ao56, co56, eo56⟩ := Kd.R_slice HO_8.out
                  (first | subst eo56 | (injection eo56 with f1_ f2_ f3_; have f4_ := f1_.symm; have f5_ := f3_.symm; clear f1_ f2_ f3_; subst f4_; subst f5_))
                  have p77023 : 0 ≤ (x9_1 : Int) := of_decide_eq_true (by first | (with_reducible assumption) | assumption)
                  have q77023 : x9_1 < (t77004.length : Int) := of_decide_eq_true (by first | (with_reducible assumption) | assumption)
                  obtain ⟨ad77023, e77023, hx77023_0⟩ := Kd.at_bool (Kd.R_reads' HO_8.out).2.2 x9_1 p77023 q77023
                  cases e77023
                  replace p77023 := eq_true p77023
                  replace q77023 := eq_true q77023
                  have p53 : 0 ≤ (x9_1 : Int) := of_decide_eq_true (by first | (with_reducible assumption) | assumption)
                  have q53 : (x9_1 : Int) < ((x7_1.length : Int) : Int) := of_decide_eq_true (by first | (with_reducible assumption) | assumption)
                  obtain ⟨go53, co53, eo53, gb53, gl53, cl53, HG53⟩ := Kd.R_form HO_7.out (by omega)
                  (first | cases eo53 | (injection eo53 with ea_ en_ ec_; (first | subst ea_ | (injection ea_ with ea_; subst ea_)); subst ec_; clear en_))
                  have GB53 := Aside0.mk gb53
                  have GG53 := Aside0.mk HG53
                  clear gb53 gl53 HG53
                  (first | simp only [add_plain] at hx77022_0 | skip)
                  obtain ⟨hx53_0, hf53_0⟩ := Kd.R_celln false HO_7.out (x9_1 : Int) p53 q53
                  replace p53 := eq_true p53
                  replace q53 := eq_true q53
                  have HP57 := Kd.R_putn HO_7.out (x9_1 : Int) ((rdOf false x7_1 x9_1) != (rdOf false t77004 x9_1))
                  rw [← Ny77024.out] at HP57
                  have HQ57 := Aside0.mk HP57
                  clear HP57
                  refine start_ (n := 13) (S := fun w' => w'.cell? ⟨go53, (x9_1).toNat, none⟩ = some (.bool (rdOf false x7_1 x9_1)) ∧ w'.cell? (ad77023.add (x9_1).toNat) = some (.bool (rdOf false t77004 x9_1))) (ds := [12]) #[false, false, false, false, false, false, false, false, false, false, false, false, false] (by kernel_rfl) rfl rfl ⟨hx77022_0, hx77023_0⟩ (fun hHeld => ?_); refine with_tabW spec_combine.tab7 spec_combine.bits7 (fun HT_ HW_ => ?_)
                  generalize wr.drew = w55 at HO_7 HO_8 HB GG53 HQ57 hf53_0 hx53_0 hx77022_0 hx77023_0 hHeld ⊢
                  refine pure_ (i := 0) (N := some 21) (v := ?_) (a' := ?_) #[true, false, false, false, false, false, false, false, false, false, false, false, false] rfl rfl (any_of HT_.out (by kernel_rfl)) (fun _ _ _ h => h) (Or.inl ⟨by rfl, ?_⟩) ?_ ?_
                  rotate_left
                  · intro w'
                    go_simp
                    with_reducible rfl
                  rotate_left
                  · simp only [Act.put, List.setIfInBounds_toArray, List.set_cons_zero, List.set_cons_succ, i64_w, i32_w]
                    rfl
                  refine pure_ (i := 1) (N := some 22) (v := ?_) (a' := ?_) #[true, true, false, false, false, false, false, false, false, false, false, false, false] rfl rfl (any_of HT_.out (by kernel_rfl)) (fun _ _ _ h => h) (Or.inl ⟨by rfl, ?_⟩) ?_ ?_
                  rotate_left
                  · intro w'
                    go_simp
                    with_reducible rfl
                  rotate_left
                  · simp only [Act.put, List.setIfInBounds_toArray, List.set_cons_zero, List.set_cons_succ, i64_w, i32_w]
                    rfl
                  refine pure_ (i := 2) (N := some 23) (v := ?_) (a' := ?_) #[true, true, true, false, false, false, false, false, false, false, false, false, false] rfl rfl (any_of HT_.out (by kernel_rfl)) (fun _ _ _ h => h) (Or.inl ⟨by rfl, ?_⟩) ?_ ?_
                  rotate_left
                  · intro w'
                    go_simp
                    with_reducible rfl
                  rotate_left
                  · simp only [Act.put, List.setIfInBounds_toArray, List.set_cons_zero, List.set_cons_succ, i64_w, i32_w]
                    rfl
                  refine pure_ (i := 3) (N := some 24) (v := ?_) (a' := ?_) #[true, true, true, true, false, false, false, false, false, false, false, false, false] rfl rfl (any_of HT_.out (by kernel_rfl)) (fun _ _ _ h => h) (Or.inl ⟨by rfl, ?_⟩) ?_ ?_
                  rotate_left
                  · intro w'
                    go_simp
                    with_reducible rfl
                  rotate_left
                  · simp only [Act.put, List.setIfInBounds_toArray, List.set_cons_zero, List.set_cons_succ, i64_w, i32_w]
                    rfl
                  refine pure_ (i := 4) (N := some 25) (v := ?_) (a' := ?_) #[true, true, true, true, true, false, false, false, false, false, false, false, false] rfl rfl (any_of HT_.out (by kernel_rfl)) (fun _ _ _ h => h) (Or.inl ⟨by rfl, ?_⟩) ?_ ?_
                  rotate_left
                  · intro w'
                    go_simp
                    with_reducible rfl
                  rotate_left
                  · simp only [Act.put, List.setIfInBounds_toArray, List.set_cons_zero, List.set_cons_succ, i64_w, i32_w]
                    rfl
                  refine pure_ (i := 6) (N := some 27) (v := ?_) (a' := ?_) #[true, true, true, true, true, false, true, false, false, false, false, false, false] rfl rfl (any_of HT_.out (by kernel_rfl)) (fun _ _ _ h => h) (Or.inl ⟨by rfl, ?_⟩) ?_ ?_
                  rotate_left
                  · intro w'
                    go_simp
                    with_reducible rfl
                  rotate_left
                  · simp only [Act.put, List.setIfInBounds_toArray, List.set_cons_zero, List.set_cons_succ, i64_w, i32_w]
                    rfl
                  refine pure_ (i := 7) (N := some 28) (v := ?_) (a' := ?_) #[true, true, true, true, true, false, true, true, false, false, false, false, false] rfl rfl (any_of HT_.out (by kernel_rfl)) (fun _ _ _ h => h) (Or.inl ⟨by rfl, ?_⟩) ?_ ?_
                  rotate_left
                  · intro w'
                    go_simp
                    with_reducible rfl
                  rotate_left
                  · simp only [Act.put, List.setIfInBounds_toArray, List.set_cons_zero, List.set_cons_succ, i64_w, i32_w]
                    rfl
                  refine pure_ (i := 8) (N := some 29) (v := ?_) (a' := ?_) #[true, true, true, true, true, false, true, true, true, false, false, false, false] rfl rfl (any_of HT_.out (by kernel_rfl)) (fun _ _ _ h => h) (Or.inl ⟨by rfl, ?_⟩) ?_ ?_
                  rotate_left
                  · intro w'
                    go_simp
                    with_reducible rfl
                  rotate_left
                  · simp only [Act.put, List.setIfInBounds_toArray, List.set_cons_zero, List.set_cons_succ, i64_w, i32_w]
                    rfl
                  refine take_ (i := 5) (N := some 26) (v := ?_) (a' := ?_) #[true, true, true, true, true, true, true, true, true, false, false, false, false] rfl rfl (take_ofW HT_.out HW_.out (by kernel_rfl)) (fun _ _ _ h => h) (Or.inl ⟨by rfl, ?_⟩) hHeld ?_ ?_
                  rotate_left
                  · rintro w' ⟨s0, s1⟩
                    go_simp
                    with_reducible rfl
                  rotate_left
                  · simp only [Act.put, List.setIfInBounds_toArray, List.set_cons_zero, List.set_cons_succ, i64_w, i32_w]
                    rfl
                  refine take_ (i := 9) (N := some 30) (v := ?_) (a' := ?_) #[true, true, true, true, true, true, true, true, true, true, false, false, false] rfl rfl (take_ofW HT_.out HW_.out (by kernel_rfl)) (fun _ _ _ h => h) (Or.inl ⟨by rfl, ?_⟩) hHeld ?_ ?_
                  rotate_left
                  · rintro w' ⟨s0, s1⟩
                    go_simp
                    with_reducible rfl
                  rotate_left
                  · simp only [Act.put, List.setIfInBounds_toArray, List.set_cons_zero, List.set_cons_succ, i64_w, i32_w]
                    rfl
                  refine pure_ (i := 10) (N := some 31) (v := ?_) (a' := ?_) #[true, true, true, true, true, true, true, true, true, true, true, false, false] rfl rfl (any_of HT_.out (by kernel_rfl)) (fun _ _ _ h => h) (Or.inl ⟨by rfl, ?_⟩) ?_ ?_
                  rotate_left
                  · intro w'
                    go_simp
                    with_reducible rfl
                  rotate_left
                  · simp only [Act.put, List.setIfInBounds_toArray, List.set_cons_zero, List.set_cons_succ, i64_w, i32_w]
                    rfl
                  refine pure_ (i := 11) (N := some 32) (v := ?_) (a' := ?_) #[true, true, true, true, true, true, true, true, true, true, true, true, false] rfl rfl (any_of HT_.out (by kernel_rfl)) (fun _ _ _ h => h) (Or.inl ⟨by rfl, ?_⟩) ?_ ?_
                  rotate_left
                  · intro w'
                    go_simp
                    with_reducible rfl
                  rotate_left
                  · simp only [Act.put, List.setIfInBounds_toArray, List.set_cons_zero, List.set_cons_succ, i64_w, i32_w]
                    rfl
                  refine last_ (i := 12) (N := none) #[true, true, true, true, true, true, true, true, true, true, true, true, true] rfl rfl (one_of HT_.out (by kernel_rfl)) (by decide) (fun K hK => ?_)
                  refine skip_ (w1 := ?_) (by rfl) rfl ?_ ?_
                  rotate_left
                  · go_simp
                    rfl
                  refine hK.out _ _ ?_
                  clear hK K
                  refine done_ (done_of HT_.out (by kernel_rfl)) ?_
                  try go_wp2
                  go_roundg k1
                  case measure => have := HK1.out; omega
                  case rel => exact ⟨(y77024), (wrap64 (x9_1 + 1)), (by first | rfl | (simp; done) | (simp [*]; done)), H', ⟨by have := HK1.out; omega⟩, ⟨by (with_reducible repeat (first | apply Kd.R_alloc | apply Kd.R_drewN | apply Kd.R_drew)); exact HQ57.out⟩, ⟨by (with_reducible repeat (first | apply Kd.R_alloc | apply Kd.R_drewN | apply Kd.R_drew)); exact Kd.R_mono (Kd.R_far (p := ⟨go53, (x9_1 : Int).toNat, none⟩) (Kd.R_mono HO_8.out (fun k_ hk => (⟨hk, fun e_ => hk (by rw [e_]; rfl)⟩ : _ ∧ k_ ≠ go53))) (fun _ hk => hk.2) (.bool ((rdOf false x7_1 x9_1) != (rdOf false t77004 x9_1)))) (fun _ hk => hk.1)⟩, ⟨by repeat (first | (with_reducible first | exact HB.out | apply below_alloc | apply pw_below_drewN | apply below_drew1 | refine below_set ?_ GB53.out) | exact HB.out)⟩⟩
                · rw [if_neg c52] at H
                  exact absurd H (by simp)
              · rw [if_neg c51] at H
                exact absurd H (by simp)
      · rw [if_neg c8] at H
        have c8b0 : decide (x9_1 < (x7_1.length : Int)) = false := decide_eq_false c8
        clear c8
        replace H := Option.bind_eq_some_iff.mp H
        obtain ⟨t77007, A580, H⟩ := H
        replace H : (some t77007) = some r := H
        have A58 := Aside0.mk A580
        clear A580
        obtain rfl := Option.some.inj H
        obtain ⟨Ao59, co59, eo59⟩ := Kd.R_slice HO_7.out
        subst eo59
        go_wp2_with (first | ((with_reducible refine gate_callee (f := 73) rfl ?_); refine goesL_ (some 80) rfl rfl Try.func73 (by kernel_rfl) rfl #[.slice Ao59 x7_1.length co59] rfl (by (try simp only [List.map_toArray, List.map_cons, List.map_nil]); first | done | rfl | (simp only [List.length_drop, List.length_take]; rfl)) ?_; (with_reducible refine (spec_runsOf.calls k1 _ _ x7_1 t77007 _ ?side1 ?side2 A58.out).mono ?_); (case side1 => repeat (first | exact (Kd.R_reads' HO_7.out).2.2 | (with_reducible refine Kd.C_alloc ?_ _) | (with_reducible refine Kd.C_drewN ?_ _) | (with_reducible refine Kd.C_drew ?_))); (case side2 => exact (Kd.R_reads' HO_7.out).2.1); rintro e w60 ⟨v77008, rfl, ho0, hb⟩; refine ⟨_, rfl, ?_⟩; have n0_ := Aside0.mk (Kd.R_below (by (with_reducible repeat (first | apply Kd.R_alloc | apply Kd.R_drewN | apply Kd.R_drew)); exact HO_7.out) hb); have n1_ := Aside0.mk (Kd.R_below (by (with_reducible repeat (first | apply Kd.R_alloc | apply Kd.R_drewN | apply Kd.R_drew)); exact HO_8.out) hb); have n2_ := Aside0.mk (Kd.R_lower ho0 (below_size (by repeat (first | (with_reducible first | exact HB.out | apply below_alloc | apply pw_below_drewN | apply below_drew1) | exact HB.out)))); have n3_ := Aside0.mk (below_step (by repeat (first | (with_reducible first | exact HB.out | apply below_alloc | apply pw_below_drewN | apply below_drew1) | exact HB.out)) hb); clear HO_7; clear HO_8; clear HB; have HO_7 := n0_; have HO_8 := n1_; have HO77009 := n2_; have HB := n3_; clear n0_ n1_ n2_ n3_; (try clear hb); (try clear hb2); (try clear hk); (try clear hi); (try clear ho0)))
        go_ret
        exact ⟨_, by first | rfl | (simp [errW_none, errW_some] <;> rfl) | (simp [*, errW_none, errW_some] <;> rfl), by (with_reducible repeat (first | apply Kd.R_alloc | apply Kd.R_drewN | apply Kd.R_drew)); exact HO77009.out, by repeat (first | (with_reducible first | exact HB.out | apply below_alloc | apply pw_below_drewN | apply below_drew1) | exact HB.out)⟩

end Go.Proofs.Ytfgeickfheogoaa.Q

namespace Go.Proofs.Ytfgeickfheogoaa.Q
open Go.RowKit Go.Proofs.YtfgeickfheogoaaW.PrintWords Go.Proofs.YtfgeickfheogoaaW.PrintLast Go.Proofs.YtfgeickfheogoaaW.PrintMore
attribute [local go_sem] max2_int min2_int max_two min_two max_three min_three max_four min_four
set_option linter.unusedVariables false
set_option linter.unusedSimpArgs false
/-! ### spec_CombineRegions: function 40 -/
def spec_CombineRegions.f (k : Nat) (l0 : List (S57)) (l1 : List (S57)) (a2 : Int) : Option ((List (S57)) × Bool) := (spec_validRuns.f k l0).bind fun t41001 => (if t41001 = true then ((spec_validRuns.f k l1).bind fun t41002 => (if t41002 = true then ((spec_inRange.f a2 0 3).bind fun t41003 => (if t41003 = true then ((spec_combine.f k l0 l1 a2).bind fun t41004 => (some (t41004, true))) else (some (([] : List (S57)), false)))) else (some (([] : List (S57)), false)))) else (some (([] : List (S57)), false)))
theorem spec_CombineRegions.mono : ∀ a0 a1 a2 k, LeO (spec_CombineRegions.f k a0 a1 a2) (spec_CombineRegions.f (k + 1) a0 a1 a2) := by
  intro a0 a1 a2 k
  unfold spec_CombineRegions.f
  repeat' first
      | (with_reducible exact spec_combine.mono _ _ _ _)
      | (with_reducible exact spec_validRuns.mono _ _)
      | (with_reducible exact LeO.refl _)
      | (with_reducible exact LeO.none _)
      | (with_reducible refine LeO.ite ?_ ?_)
      | (with_reducible refine LeO.bind ?_ (fun _ => ?_))
      | exact spec_combine.mono _ _ _ _
      | exact spec_validRuns.mono _ _
      | exact LeO.none _
      | refine LeO.ite ?_ ?_
      | refine LeO.bind ?_ (fun _ => ?_)
set_option maxHeartbeats 8000000 in
set_option maxRecDepth 100000 in
theorem spec_CombineRegions.calls (k : Nat) (A0 : Option Addr) (c0 : Nat) (l0 : List (S57)) (A1 : Option Addr) (c1 : Nat) (l1 : List (S57)) (a2 : Int) (r1 : List (S57)) (r2 : Bool) (w : World) (hr0 : Kd.C k57 w A0 l0.length l0) (hc0 : l0.length ≤ c0) (hr1 : Kd.C k57 w A1 l1.length l1) (hc1 : l1.length ≤ c1) (h : spec_CombineRegions.f k l0 l1 a2 = some (r1, r2)) :
    Calls Try.prog 40 #[.slice A0 l0.length c0, .slice A1 l1.length c1, .int .i64 a2] w fun e w' => ∃ v0_ : Value, e = .returned (.tuple #[v0_, .bool r2]) ∧ Kd.R k57 57 w' w.heap.size (fun _ => True) v0_ r1 ∧ Below w.heap.size w w' := by
  have HR0 := Aside0.mk hr0
  have HC0 := Aside0.mk hc0
  clear hr0 hc0
  have HR1 := Aside0.mk hr1
  have HC1 := Aside0.mk hc1
  clear hr1 hc1
  have HB := Aside0.mk (Below.refl w.heap.size w)
  have H : ((spec_validRuns.f k l0).bind fun t41001 => (if t41001 = true then ((spec_validRuns.f k l1).bind fun t41002 => (if t41002 = true then ((spec_inRange.f a2 0 3).bind fun t41003 => (if t41003 = true then ((spec_combine.f k l0 l1 a2).bind fun t41004 => (some (t41004, true))) else (some (([] : List (S57)), false)))) else (some (([] : List (S57)), false)))) else (some (([] : List (S57)), false)))) = some (r1, r2) := h
  clear h
  replace H := Option.bind_eq_some_iff.mp H
  obtain ⟨t41001, A40, H⟩ := H
  replace H : (if t41001 = true then ((spec_validRuns.f k l1).bind fun t41002 => (if t41002 = true then ((spec_inRange.f a2 0 3).bind fun t41003 => (if t41003 = true then ((spec_combine.f k l0 l1 a2).bind fun t41004 => (some (t41004, true))) else (some (([] : List (S57)), false)))) else (some (([] : List (S57)), false)))) else (some (([] : List (S57)), false))) = some (r1, r2) := H
  have A4 := Aside0.mk A40
  clear A40
  by_cases c5 : t41001 = true
  · subst c5
    have H1 : ((spec_validRuns.f k l1).bind fun t41002 => (if t41002 = true then ((spec_inRange.f a2 0 3).bind fun t41003 => (if t41003 = true then ((spec_combine.f k l0 l1 a2).bind fun t41004 => (some (t41004, true))) else (some (([] : List (S57)), false)))) else (some (([] : List (S57)), false)))) = some (r1, r2) := by rw [if_pos rfl] at H; exact H
    clear H
    have H := H1
    clear H1
    replace H := Option.bind_eq_some_iff.mp H
    obtain ⟨t41002, A60, H⟩ := H
    replace H : (if t41002 = true then ((spec_inRange.f a2 0 3).bind fun t41003 => (if t41003 = true then ((spec_combine.f k l0 l1 a2).bind fun t41004 => (some (t41004, true))) else (some (([] : List (S57)), false)))) else (some (([] : List (S57)), false))) = some (r1, r2) := H
    have A6 := Aside0.mk A60
    clear A60
    by_cases c7 : t41002 = true
    · subst c7
      have H1 : ((spec_inRange.f a2 0 3).bind fun t41003 => (if t41003 = true then ((spec_combine.f k l0 l1 a2).bind fun t41004 => (some (t41004, true))) else (some (([] : List (S57)), false)))) = some (r1, r2) := by rw [if_pos rfl] at H; exact H
      clear H
      have H := H1
      clear H1
      replace H := Option.bind_eq_some_iff.mp H
      obtain ⟨t41003, A80, H⟩ := H
      replace H : (if t41003 = true then ((spec_combine.f k l0 l1 a2).bind fun t41004 => (some (t41004, true))) else (some (([] : List (S57)), false))) = some (r1, r2) := H
      have A8 := Aside0.mk A80
      clear A80
      by_cases c9 : t41003 = true
      · subst c9
        have H1 : ((spec_combine.f k l0 l1 a2).bind fun t41004 => (some (t41004, true))) = some (r1, r2) := by rw [if_pos rfl] at H; exact H
        clear H
        have H := H1
        clear H1
        replace H := Option.bind_eq_some_iff.mp H
        obtain ⟨t41004, A100, H⟩ := H
        replace H : (some (t41004, true)) = some (r1, r2) := H
        have A10 := Aside0.mk A100
        clear A100
        simp only [Option.some.injEq, Prod.mk.injEq] at H
        obtain ⟨rfl, rfl⟩ := H
        go_enter Try.func40, Try.ntmps40
        go_wp2_with (first | ((with_reducible refine gate_callee (f := 53) rfl ?_); refine goesL_ (some 9) rfl rfl Try.func53 (by kernel_rfl) rfl #[.slice A0 l0.length c0] rfl (by (try simp only [List.map_toArray, List.map_cons, List.map_nil]); first | done | rfl | (simp only [List.length_drop, List.length_take]; rfl)) ?_; (with_reducible refine (spec_validRuns.calls k _ _ l0 true _ ?side1 ?side2 A4.out).mono ?_); (case side1 => repeat (first | exact HR0.out | (with_reducible refine Kd.C_alloc ?_ _) | (with_reducible refine Kd.C_drewN ?_ _) | (with_reducible refine Kd.C_drew ?_))); (case side2 => exact HC0.out); rintro e w11 ⟨rfl, hb⟩; refine ⟨_, rfl, ?_⟩; have n0_ := Aside0.mk (below_step (by repeat (first | (with_reducible first | exact HB.out | apply below_alloc | apply pw_below_drewN | apply below_drew1) | exact HB.out)) hb); clear HB; have HB := n0_; clear n0_; (try clear hb); (try clear hb2); (try clear hk); (try clear hi)) | (go_at_call 53; (with_reducible refine (spec_validRuns.calls k _ _ l1 true _ ?side1 ?side2 A6.out).mono ?_); (case side1 => repeat (first | exact (Kd.C_below HR1.out HB.out) | (with_reducible refine Kd.C_alloc ?_ _) | (with_reducible refine Kd.C_drewN ?_ _) | (with_reducible refine Kd.C_drew ?_))); (case side2 => exact HC1.out); rintro e w12 ⟨rfl, hb⟩; have n0_ := Aside0.mk (below_step (by repeat (first | (with_reducible first | exact HB.out | apply below_alloc | apply pw_below_drewN | apply below_drew1) | exact HB.out)) hb); clear HB; have HB := n0_; clear n0_; (try clear hb); (try clear hb2); (try clear hk); (try clear hi)) | (go_at_call 57; (with_reducible refine (spec_inRange.calls a2 0 3 true _ A8.out).mono ?_); rintro e w' ⟨rfl, ⟨nd, rfl⟩⟩) | ((with_reducible refine gate_callee (f := 76) rfl ?_); refine goesL_ (some 24) rfl rfl Try.func76 (by kernel_rfl) rfl #[.slice A0 l0.length c0, .slice A1 l1.length c1, .int .i64 a2] rfl (by (try simp only [List.map_toArray, List.map_cons, List.map_nil]); first | done | rfl | (simp only [List.length_drop, List.length_take]; rfl)) ?_; (with_reducible refine (spec_combine.calls k _ _ l0 _ _ l1 a2 t41004 _ ?side1 ?side2 ?side3 ?side4 A10.out).mono ?_); (case side1 => repeat (first | exact (Kd.C_below HR0.out (by repeat (first | (with_reducible first | exact HB.out | apply below_alloc | apply pw_below_drewN | apply below_drew1) | exact HB.out))) | (with_reducible refine Kd.C_alloc ?_ _) | (with_reducible refine Kd.C_drewN ?_ _) | (with_reducible refine Kd.C_drew ?_))); (case side2 => exact HC0.out); (case side3 => repeat (first | exact (Kd.C_below HR1.out (by repeat (first | (with_reducible first | exact HB.out | apply below_alloc | apply pw_below_drewN | apply below_drew1) | exact HB.out))) | (with_reducible refine Kd.C_alloc ?_ _) | (with_reducible refine Kd.C_drewN ?_ _) | (with_reducible refine Kd.C_drew ?_))); (case side4 => exact HC1.out); rintro e w13 ⟨v41005, rfl, ho0, hb⟩; refine ⟨_, rfl, ?_⟩; have n0_ := Aside0.mk (Kd.R_lower ho0 (below_size (by repeat (first | (with_reducible first | exact HB.out | apply below_alloc | apply pw_below_drewN | apply below_drew1) | exact HB.out)))); have n1_ := Aside0.mk (below_step (by repeat (first | (with_reducible first | exact HB.out | apply below_alloc | apply pw_below_drewN | apply below_drew1) | exact HB.out)) hb); clear HB; have HO41006 := n0_; have HB := n1_; clear n0_ n1_; (try clear hb); (try clear hb2); (try clear hk); (try clear hi); (try clear ho0)))
        go_ret2
        exact ⟨_, by first | rfl | (simp [errW_none, errW_some] <;> rfl) | (simp [*, errW_none, errW_some] <;> rfl), by (with_reducible repeat (first | apply Kd.R_alloc | apply Kd.R_drewN | apply Kd.R_drew)); exact HO41006.out, by repeat (first | (with_reducible first | exact HB.out | apply below_alloc | apply pw_below_drewN | apply below_drew1) | exact HB.out)⟩
      · replace c9 := Bool.eq_false_iff.mpr c9
        subst c9
        have H1 : (some (([] : List (S57)), false)) = some (r1, r2) := by rw [if_neg (show ¬ (false = true) by decide)] at H; exact H
        clear H
        have H := H1
        clear H1
        simp only [Option.some.injEq, Prod.mk.injEq] at H
        obtain ⟨rfl, rfl⟩ := H
        go_enter Try.func40, Try.ntmps40
        go_wp2_with (first | ((with_reducible refine gate_callee (f := 53) rfl ?_); refine goesL_ (some 9) rfl rfl Try.func53 (by kernel_rfl) rfl #[.slice A0 l0.length c0] rfl (by (try simp only [List.map_toArray, List.map_cons, List.map_nil]); first | done | rfl | (simp only [List.length_drop, List.length_take]; rfl)) ?_; (with_reducible refine (spec_validRuns.calls k _ _ l0 true _ ?side1 ?side2 A4.out).mono ?_); (case side1 => repeat (first | exact HR0.out | (with_reducible refine Kd.C_alloc ?_ _) | (with_reducible refine Kd.C_drewN ?_ _) | (with_reducible refine Kd.C_drew ?_))); (case side2 => exact HC0.out); rintro e w14 ⟨rfl, hb⟩; refine ⟨_, rfl, ?_⟩; have n0_ := Aside0.mk (below_step (by repeat (first | (with_reducible first | exact HB.out | apply below_alloc | apply pw_below_drewN | apply below_drew1) | exact HB.out)) hb); clear HB; have HB := n0_; clear n0_; (try clear hb); (try clear hb2); (try clear hk); (try clear hi)) | (go_at_call 53; (with_reducible refine (spec_validRuns.calls k _ _ l1 true _ ?side1 ?side2 A6.out).mono ?_); (case side1 => repeat (first | exact (Kd.C_below HR1.out HB.out) | (with_reducible refine Kd.C_alloc ?_ _) | (with_reducible refine Kd.C_drewN ?_ _) | (with_reducible refine Kd.C_drew ?_))); (case side2 => exact HC1.out); rintro e w15 ⟨rfl, hb⟩; have n0_ := Aside0.mk (below_step (by repeat (first | (with_reducible first | exact HB.out | apply below_alloc | apply pw_below_drewN | apply below_drew1) | exact HB.out)) hb); clear HB; have HB := n0_; clear n0_; (try clear hb); (try clear hb2); (try clear hk); (try clear hi)) | (go_at_call 57; (with_reducible refine (spec_inRange.calls a2 0 3 false _ A8.out).mono ?_); rintro e w' ⟨rfl, ⟨nd, rfl⟩⟩))
        go_ret2
        exact ⟨_, by first | rfl | (simp [errW_none, errW_some] <;> rfl) | (simp [*, errW_none, errW_some] <;> rfl), by first | exact Kd.R_nil _ _ _ _ _ | exact Kd.N_nil _ _ _ _ _ | exact Kd.V_nil _ _ _ _ _ | exact Kd.Q_nil _ _ _ _ _ | exact Kd.S_nil _ _ _ _ _, by repeat (first | (with_reducible first | exact HB.out | apply below_alloc | apply pw_below_drewN | apply below_drew1) | exact HB.out)⟩
    · replace c7 := Bool.eq_false_iff.mpr c7
      subst c7
      have H1 : (some (([] : List (S57)), false)) = some (r1, r2) := by rw [if_neg (show ¬ (false = true) by decide)] at H; exact H
      clear H
      have H := H1
      clear H1
      simp only [Option.some.injEq, Prod.mk.injEq] at H
      obtain ⟨rfl, rfl⟩ := H
      go_enter Try.func40, Try.ntmps40
      go_wp2_with (first | ((with_reducible refine gate_callee (f := 53) rfl ?_); refine goesL_ (some 9) rfl rfl Try.func53 (by kernel_rfl) rfl #[.slice A0 l0.length c0] rfl (by (try simp only [List.map_toArray, List.map_cons, List.map_nil]); first | done | rfl | (simp only [List.length_drop, List.length_take]; rfl)) ?_; (with_reducible refine (spec_validRuns.calls k _ _ l0 true _ ?side1 ?side2 A4.out).mono ?_); (case side1 => repeat (first | exact HR0.out | (with_reducible refine Kd.C_alloc ?_ _) | (with_reducible refine Kd.C_drewN ?_ _) | (with_reducible refine Kd.C_drew ?_))); (case side2 => exact HC0.out); rintro e w16 ⟨rfl, hb⟩; refine ⟨_, rfl, ?_⟩; have n0_ := Aside0.mk (below_step (by repeat (first | (with_reducible first | exact HB.out | apply below_alloc | apply pw_below_drewN | apply below_drew1) | exact HB.out)) hb); clear HB; have HB := n0_; clear n0_; (try clear hb); (try clear hb2); (try clear hk); (try clear hi)) | (go_at_call 53; (with_reducible refine (spec_validRuns.calls k _ _ l1 false _ ?side1 ?side2 A6.out).mono ?_); (case side1 => repeat (first | exact (Kd.C_below HR1.out HB.out) | (with_reducible refine Kd.C_alloc ?_ _) | (with_reducible refine Kd.C_drewN ?_ _) | (with_reducible refine Kd.C_drew ?_))); (case side2 => exact HC1.out); rintro e w17 ⟨rfl, hb⟩; have n0_ := Aside0.mk (below_step (by repeat (first | (with_reducible first | exact HB.out | apply below_alloc | apply pw_below_drewN | apply below_drew1) | exact HB.out)) hb); clear HB; have HB := n0_; clear n0_; (try clear hb); (try clear hb2); (try clear hk); (try clear hi)))
      go_ret2
      exact ⟨_, by first | rfl | (simp [errW_none, errW_some] <;> rfl) | (simp [*, errW_none, errW_some] <;> rfl), by first | exact Kd.R_nil _ _ _ _ _ | exact Kd.N_nil _ _ _ _ _ | exact Kd.V_nil _ _ _ _ _ | exact Kd.Q_nil _ _ _ _ _ | exact Kd.S_nil _ _ _ _ _, by repeat (first | (with_reducible first | exact HB.out | apply below_alloc | apply pw_below_drewN | apply below_drew1) | exact HB.out)⟩
  · replace c5 := Bool.eq_false_iff.mpr c5
    subst c5
    have H1 : (some (([] : List (S57)), false)) = some (r1, r2) := by rw [if_neg (show ¬ (false = true) by decide)] at H; exact H
    clear H
    have H := H1
    clear H1
    simp only [Option.some.injEq, Prod.mk.injEq] at H
    obtain ⟨rfl, rfl⟩ := H
    go_enter Try.func40, Try.ntmps40
    go_wp2_with (first | ((with_reducible refine gate_callee (f := 53) rfl ?_); refine goesL_ (some 9) rfl rfl Try.func53 (by kernel_rfl) rfl #[.slice A0 l0.length c0] rfl (by (try simp only [List.map_toArray, List.map_cons, List.map_nil]); first | done | rfl | (simp only [List.length_drop, List.length_take]; rfl)) ?_; (with_reducible refine (spec_validRuns.calls k _ _ l0 false _ ?side1 ?side2 A4.out).mono ?_); (case side1 => repeat (first | exact HR0.out | (with_reducible refine Kd.C_alloc ?_ _) | (with_reducible refine Kd.C_drewN ?_ _) | (with_reducible refine Kd.C_drew ?_))); (case side2 => exact HC0.out); rintro e w18 ⟨rfl, hb⟩; refine ⟨_, rfl, ?_⟩; have n0_ := Aside0.mk (below_step (by repeat (first | (with_reducible first | exact HB.out | apply below_alloc | apply pw_below_drewN | apply below_drew1) | exact HB.out)) hb); clear HB; have HB := n0_; clear n0_; (try clear hb); (try clear hb2); (try clear hk); (try clear hi)))
    go_ret2
    exact ⟨_, by first | rfl | (simp [errW_none, errW_some] <;> rfl) | (simp [*, errW_none, errW_some] <;> rfl), by first | exact Kd.R_nil _ _ _ _ _ | exact Kd.N_nil _ _ _ _ _ | exact Kd.V_nil _ _ _ _ _ | exact Kd.Q_nil _ _ _ _ _ | exact Kd.S_nil _ _ _ _ _, by repeat (first | (with_reducible first | exact HB.out | apply below_alloc | apply pw_below_drewN | apply below_drew1) | exact HB.out)⟩

end Go.Proofs.Ytfgeickfheogoaa.Q

/- Words of this session's own hand-made walks: where the first element lies for which a test holds; draws that follow each other. -/
namespace Go.Proofs.Ytfgeickfheogoaa.Q
open Go.RowKit Go.Proofs.YtfgeickfheogoaaW.PrintWords Go.Proofs.YtfgeickfheogoaaW.PrintLast Go.Proofs.YtfgeickfheogoaaW.PrintMore
attribute [local go_sem] max2_int min2_int max_two min_two max_three min_three max_four min_four
set_option linter.unusedVariables false
set_option linter.unusedSimpArgs false

/-- p fails at all that lies before k -/
def SawNone {α : Type} (p : α → Bool) (l : List α) (k : Nat) : Prop := ∀ j, j < k → ∀ h : j < l.length, p l[j] = false
theorem SawNone.succ {α : Type} {p : α → Bool} {l : List α} {k : Nat} (h : SawNone p l k) (hk : k < l.length) (hp : p l[k] = false) : SawNone p l (k + 1) := by
  intro j hj hl
  by_cases e : j = k
  · subst e; exact hp
  · exact h j (by omega) hl
theorem R_empty {α : Type} (d : Kd α) (e base : Nat) (W : World) (hb : base ≤ W.heap.size) : d.R e (W.alloc (.cells #[] e)) base (fun _ => True) (.slice (some ⟨W.heap.size, 0, none⟩) 0 0) [] :=
  ⟨fun _ _ => trivial, OwnRow.lit (ps := []) (inner := []) W base (Reps.none _ _) hb (by simp)⟩
end Go.Proofs.Ytfgeickfheogoaa.Q

/- Grids of pixels as the machine has them: 256 cells. -/
namespace Go.Proofs.Ytfgeickfheogoaa.Q
open Go.RowKit Go.Proofs.YtfgeickfheogoaaW.PrintWords Go.Proofs.YtfgeickfheogoaaW.PrintLast Go.Proofs.YtfgeickfheogoaaW.PrintMore
attribute [local go_sem] max2_int min2_int max_two min_two max_three min_three max_four min_four
set_option linter.unusedVariables false
set_option linter.unusedSimpArgs false

/-- The cells of a grid: pixel p is that in column p % 16 and row p / 16. -/
def gc (g : Nat → Bool) : Array Value := Array.ofFn (n := 256) fun i => .bool (g i.val)
theorem gc_size (g : Nat → Bool) : (gc g).size = 256 := by simp [gc]
theorem gc_get (g : Nat → Bool) (i : Nat) (h : i < 256) : (gc g)[i]? = some (.bool (g i)) := by simp [gc, h]
theorem gc_one (g : Nat → Bool) : (gc g).all (·.oneCell') = true := by
  rw [Array.all_eq_true]
  intro i hi
  simp [gc, Value.oneCell']
theorem gc_set (g : Nat → Bool) (i : Nat) (b : Bool) : (gc g).setIfInBounds i (.bool b) = gc (fun p => if p = i then b else g p) := by
  unfold gc
  apply Array.ext
  · simp
  · intro j h1 h2
    rw [Array.getElem_setIfInBounds (by simpa using h1)]
    simp only [Array.getElem_ofFn]
    by_cases e : i = j
    · subst e; simp
    · rw [if_neg e, if_neg (fun h => e h.symm)]
theorem gc_congr {g g' : Nat → Bool} (h : ∀ p, p < 256 → g p = g' p) : gc g = gc g' := by
  unfold gc
  congr 1
  funext i
  rw [h i.val i.isLt]
theorem zero66 : Try.zeroCells66 = gc (fun _ => false) := by kernel_rfl
theorem info66 : (Try.prog.info? 66).map (·.size) = some 256 := by kernel_rfl
/-- A world in which block B is a grid's. -/
def GridAt (W : World) (B : Nat) (g : Nat → Bool) : Prop := W.heap[B]? = some (.cells (gc g) 66 (0, 0))
theorem GridAt.cell {W : World} {B : Nat} {g : Nat → Bool} (h : GridAt W B g) (i : Nat) (hi : i < 256) : W.cell? ⟨B, i, none⟩ = some (.bool (g i)) := (blk_cell h i).trans (gc_get g i hi)
theorem GridAt.free {W : World} {B : Nat} {g : Nat → Bool} (h : GridAt W B g) (i : Nat) : W.frozen? ⟨B, i, none⟩ = false := blk_frozen h i
theorem GridAt.below {W W' : World} {B : Nat} {g : Nat → Bool} (h : GridAt W B g) (hb : Below W.heap.size W W') : GridAt W' B g := blk_below h hb
theorem GridAt.lt {W : World} {B : Nat} {g : Nat → Bool} (h : GridAt W B g) : B < W.heap.size := blk_lt h
theorem GridAt.set_ {W : World} {B : Nat} {g : Nat → Bool} (h : GridAt W B g) (i : Nat) (b : Bool) : GridAt (W.setCell ⟨B, i, none⟩ (.bool b)) B (fun p => if p = i then b else g p) := by
  have := blk_set h i (.bool b)
  rw [gc_set] at this
  exact this
theorem GridAt.new (W : World) (g : Nat → Bool) : GridAt (W.alloc (.cells (gc g) 66)) W.heap.size g := blk_new _ _
theorem GridAt.alloc {W : World} {B : Nat} {g : Nat → Bool} (h : GridAt W B g) (o : Obj) : GridAt (W.alloc o) B g := blk_alloc h o
theorem GridAt.congr {W : World} {B : Nat} {g g' : Nat → Bool} (h : GridAt W B g) (he : ∀ p, p < 256 → g p = g' p) : GridAt W B g' := by
  unfold GridAt at h ⊢
  rw [← gc_congr he]; exact h
theorem GridAt.setRow {W : World} {B : Nat} {g : Nat → Bool} (h : GridAt W B g) (g' : Nat → Bool) : GridAt (W.setRow B (gc g')) B g' := setRow_heap W B _ _ _ _ h
theorem below_setRow {B : Nat} {a w : World} (h : Below B a w) {g : Nat} (hg : B ≤ g) (cs : Array Value) : Below B a (w.setRow g cs) :=
  ⟨h.os, h.tape, h.output, by rw [setRow_size]; exact h.size, fun i hi => (setRow_other w g i cs (by omega)).trans (h.block i hi)⟩
theorem underlying66 : Try.prog.underlying 66 = some (.array 16 64) := Try.underlying66
end Go.Proofs.Ytfgeickfheogoaa.Q

/- impl.gridBy: the grid of the pixels for which a function value's answer is true. -/
namespace Go.Proofs.Ytfgeickfheogoaa.Q
open Go.RowKit Go.Proofs.YtfgeickfheogoaaW.PrintWords Go.Proofs.YtfgeickfheogoaaW.PrintLast Go.Proofs.YtfgeickfheogoaaW.PrintMore
attribute [local go_sem] max2_int min2_int max_two min_two max_three min_three max_four min_four
set_option linter.unusedVariables false
set_option linter.unusedSimpArgs false

/-- what has been asked so far -/
def gso (so : Nat → Nat → Bool) (n : Nat) : Nat → Bool := fun p => decide (p < n) && so (p % 16) (p / 16)

theorem gso_step (so : Nat → Nat → Bool) (x y : Nat) (hx : x < 16) (p : Nat) : (if p = y * 16 + x then so x y else gso so (16 * y + x) p) = gso so (16 * y + (x + 1)) p := by
  unfold gso
  by_cases e : p = y * 16 + x
  · rw [if_pos e]
    have h1 : p % 16 = x := by omega
    have h2 : p / 16 = y := by omega
    rw [h1, h2]
    simp; omega
  · rw [if_neg e]
    congr 1
    rw [decide_eq_decide]
    omega
set_option maxHeartbeats 8000000 in
set_option maxRecDepth 100000 in
theorem gridBy_calls (q : Nat) (lb : Array Value) (so : Nat → Nat → Bool) (w : World)
    (eg : ∀ args W, (callFunc q args).run Try.prog W = .ok (.enter q args) W)
    (hp : ∀ (W : World) (x y : Nat), x < 16 → y < 16 → Below w.heap.size w W → Calls Try.prog q (#[.int .i64 (x : Int), .int .i64 (y : Int)] ++ lb) W fun e W' => e = .returned (.bool (so x y)) ∧ Below W.heap.size W W') :
    Calls Try.prog 62 #[.func (.func q) #[] lb] w fun e w' => e = .returned (.agg (gc (gso so 256))) ∧ Below w.heap.size w w' := by
  have HP := Aside0.mk hp
  clear hp
  have z0 := zero66
  have hst := run_storeCells_new (P := Try.prog) (w.alloc (.cells (gc fun _ => false) 66)) 66 (gc fun _ => false) (gc fun _ => false) (by rw [gc_size]; exact info66) rfl (gc_one _)
  simp only [World.size_alloc] at hst
  go_enter Try.func62, Try.ntmps62
  go_wp2
  go_loopw [7] (fun v7 W => ∃ y : Nat, v7 = .int .i64 y ∧ y ≤ 16 ∧ GridAt W (w.heap.size + 1) (gso so (16 * y)) ∧ GridAt W w.heap.size (fun _ => false) ∧ Aside0 (Below w.heap.size w W)) (fun v7 _ => 16 - (intOf v7).toNat)
  case atStart =>
    refine ⟨0, rfl, by omega, ?_, (GridAt.new _ _).alloc _, ⟨((Below.refl _ _).alloc (Nat.le_refl _) _).alloc (by simp) _⟩⟩
    have h := GridAt.new (w.alloc (.cells (gc fun _ => false) 66)) (fun _ => false)
    simp only [World.size_alloc] at h
    exact h.congr (fun p _ => by simp [gso])
  case round =>
    obtain ⟨y, rfl, hy, hg, hg2, hb⟩ := hrel
    clear hst
    by_cases hlt : y < 16
    · have hdy : decide ((y : Int) < 16) = true := by simp; omega
      go_wp2
      go_loopw [10] (fun v10 W => ∃ x : Nat, v10 = .int .i64 x ∧ x ≤ 16 ∧ GridAt W (w.heap.size + 1) (gso so (16 * y + x)) ∧ GridAt W w.heap.size (fun _ => false) ∧ Aside0 (Below w.heap.size w W)) (fun v10 _ => 16 - (intOf v10).toNat)
      case atStart => exact ⟨0, rfl, by omega, hg, hg2, hb⟩
      case round =>
        clear hg hg2 hb
        obtain ⟨x, rfl, hx, hg, hg2, hb⟩ := hrel
        by_cases hlx : x < 16
        · have hdx : decide ((x : Int) < 16) = true := by simp; omega
          go_wp2
          go_region_with (first | (go_at_fn q; refine (HP.out _ x y hlx hlt (by first | exact hb.out | exact below_drew hb.out | exact pw_below_drewN hb.out _)).mono ?_; rintro e w' ⟨rfl, hb2⟩; have hgn := Aside0.mk (blk_below (w := wr.drew) hg hb2); have hgn2 := Aside0.mk (blk_below (w := wr.drew) hg2 hb2); have hbn := Aside0.mk (below_then (below_drew hb.out) (below_drew hb.out).size hb2); have hc1 := GridAt.cell hgn.out (y * 16 + x) (by omega); have hf1 := GridAt.free hgn.out (y * 16 + x); clear hb2))
          all_goals
            go_wp2
            go_roundw
            case rel => exact ⟨x + 1, by go_num, by omega, (GridAt.set_ hgn.out (y * 16 + x) (so x y)).congr (fun p _ => gso_step so x y hlx p), blk_far hgn2.out (by simp) _, ⟨below_set hbn.out (by omega)⟩⟩
            case measure => simp [intOf]; omega
        · have hdx : decide ((x : Int) < 16) = false := by simp; omega
          have hx16 : x = 16 := by omega
          subst hx16
          go_wp2
          go_roundw
          case rel => exact ⟨y + 1, by go_num, by omega, hg.congr (fun p _ => by rw [Nat.mul_add]), hg2, hb⟩
          case measure => simp [intOf]; omega
    · have hdy : decide ((y : Int) < 16) = false := by simp; omega
      have hy16 : y = 16 := by omega
      subst hy16
      have hg' : wr.heap[w.heap.size + 1]? = some (.cells (gc (gso so 256)) 66 (0, 0)) := hg
      have hg2' : wr.heap[w.heap.size]? = some (.cells (gc fun _ => false) 66 (0, 0)) := hg2
      have hi : (Try.prog.info? 66).map (·.size) = some (gc (gso so 256)).size := by rw [gc_size]; exact info66
      have hold : (gc fun _ => false).size = (gc (gso so 256)).size := by rw [gc_size, gc_size]
      have h1 := gc_one (gso so 256)
      go_wp2_with (first
        | ((with_reducible refine gate_dst (N := 23) rfl ?_); refine wpList_load_row rfl 66 (.tmp 3) rfl (w.heap.size + 1) rfl 66 (gc (gso so 256)) (0, 0) (.array 16 64) hg' underlying66 rfl hi ?_)
        | ((with_reducible refine wpList_store_row rfl 66 (.tmp 2) (.tmp 23) rfl w.heap.size (gc (gso so 256)) ?hx ?hy 66 (gc fun _ => false) hg2' hi hold h1 ?_); (case hx => rfl); (case hy => rfl)))
      refine bodyPost_ret (results_cell_row rfl _ _ w.heap.size 66 (gc (gso so 256)) (0, 0) (.array 16 64) rfl (hg2.setRow (gso so 256)) underlying66 rfl hi) rfl ?_
      exact ⟨rfl, below_setRow hb.out (Nat.le_refl _) _⟩
end Go.Proofs.Ytfgeickfheogoaa.Q

/- impl.gridOf: the grid of runs that are in range. -/
namespace Go.Proofs.Ytfgeickfheogoaa.Q
open Go.RowKit Go.Proofs.YtfgeickfheogoaaW.PrintWords Go.Proofs.YtfgeickfheogoaaW.PrintLast Go.Proofs.YtfgeickfheogoaaW.PrintMore
attribute [local go_sem] max2_int min2_int max_two min_two max_three min_three max_four min_four
set_option linter.unusedVariables false
set_option linter.unusedSimpArgs false

def runIn (r : S57) (p : Nat) : Bool := decide (r.f0 = ((p / 16 : Nat) : Int)) && decide (r.f1 ≤ ((p % 16 : Nat) : Int)) && decide (((p % 16 : Nat) : Int) < r.f2)
def gridF (l : List S57) (p : Nat) : Bool := l.any fun r => runIn r p
theorem gridF_succ (l : List S57) (k : Nat) (h : k < l.length) (p : Nat) : gridF (l.take (k + 1)) p = (gridF (l.take k) p || runIn l[k] p) := by
  unfold gridF
  rw [List.take_succ_eq_append_getElem h, List.any_append]; simp
/-- a run's pixels before column x -/
def runTo (r : S57) (x : Nat) (p : Nat) : Bool := decide (r.f0 = ((p / 16 : Nat) : Int)) && decide (r.f1 ≤ ((p % 16 : Nat) : Int)) && decide (p % 16 < x)
theorem runTo_step (r : S57) (Y x : Nat) (hY : r.f0 = (Y : Int)) (hx : x < 16) (hF : r.f1 ≤ (x : Int)) (g : Nat → Bool) (p : Nat) :
    (if p = Y * 16 + x then true else (g p || runTo r x p)) = (g p || runTo r (x + 1) p) := by
  unfold runTo
  by_cases e : p = Y * 16 + x
  · rw [if_pos e]
    have h1 : p % 16 = x := by omega
    have h2 : p / 16 = Y := by omega
    rw [h1, h2, hY]
    simp [hF]
  · rw [if_neg e]
    congr 1
    by_cases c1 : r.f0 = ((p / 16 : Nat) : Int)
    · have : decide (p % 16 < x) = decide (p % 16 < x + 1) := by
        rw [decide_eq_decide]
        have : p % 16 ≠ x := by omega
        omega
      rw [this]
    · rw [decide_eq_false c1, Bool.false_and, Bool.false_and, Bool.false_and]

set_option maxHeartbeats 8000000 in
set_option maxRecDepth 100000 in
theorem gridOf_calls (A0 : Option Addr) (c0 : Nat) (l0 : List S57) (w : World) (hr0 : Kd.C k57 w A0 l0.length l0) (hok : ∀ r ∈ l0, 0 ≤ r.f0 ∧ r.f0 < 16 ∧ 0 ≤ r.f1 ∧ r.f2 ≤ 16) :
    Calls Try.prog 59 #[.slice A0 l0.length c0] w fun e w' => e = .returned (.agg (gc (gridF l0))) ∧ Below w.heap.size w w' := by
  have hm : l0.length ≤ 9223372036854775807 := hr0.2.1
  have HR := Aside0.mk hr0
  have HOK := Aside0.mk hok
  clear hr0 hok
  have hu := Try.underlying57
  have z0 := zero66
  have hst := run_storeCells_new (P := Try.prog) (w.alloc (.cells (gc fun _ => false) 66)) 66 (gc fun _ => false) (gc fun _ => false) (by rw [gc_size]; exact info66) rfl (gc_one _)
  simp only [World.size_alloc] at hst
  go_enter Try.func59, Try.ntmps59
  go_wp2
  go_loopw [10] (fun v10 W => ∃ k : Nat, v10 = .int .i64 k ∧ k ≤ l0.length ∧ GridAt W (w.heap.size + 1) (gridF (l0.take k)) ∧ GridAt W w.heap.size (fun _ => false) ∧ Aside0 (Below w.heap.size w W)) (fun v10 _ => l0.length - (intOf v10).toNat)
  case atStart =>
    refine ⟨0, rfl, by omega, ?_, (GridAt.new _ _).alloc _, ⟨((Below.refl _ _).alloc (Nat.le_refl _) _).alloc (by simp) _⟩⟩
    have h := GridAt.new (w.alloc (.cells (gc fun _ => false) 66)) (fun _ => false)
    simp only [World.size_alloc] at h
    exact h.congr (fun p _ => by simp [gridF])
  case round =>
    obtain ⟨k, rfl, hk, hg, hg2, hb⟩ := hrel
    clear hst
    obtain ⟨wo, rfl⟩ : ∃ wo : World, wo = wr := ⟨_, rfl⟩
    by_cases hlt : k < l0.length
    · have hdk : decide ((k : Int) < (l0.length : Int)) = true := by simp; omega
      obtain ⟨ad, e, hx0, hx1, hx2⟩ := at_T57 HR.out (k : Int) (by omega) (by omega)
      cases e
      have er : rd_T57 l0 (k : Int) = l0[k] := by simp [rd_T57, hlt]
      have ho := HOK.out l0[k] (List.getElem_mem hlt)
      have HGS := Aside0.mk (gridF_succ l0 k hlt)
      rw [er, Int.toNat_natCast] at hx0 hx1 hx2
      clear er
      generalize l0[k] = r at *
      obtain ⟨Y, hY⟩ := Int.eq_ofNat_of_zero_le ho.1
      obtain ⟨F, hF⟩ := Int.eq_ofNat_of_zero_le ho.2.2.1
      have ho2 := ho.2.1
      have ho4 := ho.2.2.2
      clear ho
      rw [hY] at hx0 ho2
      rw [hF] at hx1
      replace hx0 := (hb.out.cell (World.block_lt_of_cell? w _ hx0)).trans hx0
      replace hx1 := (hb.out.cell (World.block_lt_of_cell? w _ hx1)).trans hx1
      replace hx2 := (hb.out.cell (World.block_lt_of_cell? w _ hx2)).trans hx2
      have HY := Aside0.mk hY
      have HF := Aside0.mk hF
      clear hY hF
      go_wp2
      have hlt2 := hg.lt
      go_loopw [6] (fun v6 W => ∃ x : Nat, v6 = .int .i64 x ∧ F ≤ x ∧ ((x : Int) ≤ r.f2 ∨ x = F) ∧ GridAt W (w.heap.size + 1) (fun p => gridF (l0.take k) p || runTo r x p) ∧ GridAt W w.heap.size (fun _ => false) ∧ Aside0 (W.heap[wo.heap.size]? = some (.cells #[.int .i64 (Y : Int), .int .i64 (F : Int), .int .i64 r.f2] 57 (0, 0))) ∧ Aside0 (Below w.heap.size w W)) (fun v6 _ => 17 - (intOf v6).toNat + (r.f2 - (intOf v6)).toNat)
      case atStart =>
        refine ⟨F, rfl, Nat.le_refl _, .inr rfl, (hg.alloc _).congr (fun p _ => ?_), hg2.alloc _, ⟨blk_new _ _⟩, ⟨below_alloc hb.out _⟩⟩
        have : runTo r F p = false := by
          unfold runTo
          rw [HF.out]
          by_cases c : ((F : Nat) : Int) ≤ ((p % 16 : Nat) : Int)
          · rw [decide_eq_false (show ¬ p % 16 < F by omega), Bool.and_false]
          · rw [decide_eq_false c, Bool.and_false, Bool.false_and]
        rw [this, Bool.or_false]
      case round =>
        clear hg hg2 hb
        obtain ⟨x, rfl, hFx, hx, hg, hg2, hr, hb⟩ := hrel
        have hc0 : wr.cell? ⟨wo.heap.size, 0, none⟩ = some (.int .i64 (Y : Int)) := (blk_cell hr.out 0).trans rfl
        have hc2 : wr.cell? ⟨wo.heap.size, 2, none⟩ = some (.int .i64 r.f2) := (blk_cell hr.out 2).trans rfl
        by_cases hxt : (x : Int) < r.f2
        · have hdx : decide ((x : Int) < r.f2) = true := by simpa using hxt
          have hcg := hg.cell (Y * 16 + x) (by omega)
          have hfg := hg.free (Y * 16 + x)
          have hx16 : x < 16 := by omega
          go_wp2
          go_roundw
          case rel => exact ⟨x + 1, by go_num, by omega, .inl (by omega), (hg.set_ (Y * 16 + x) true).congr (fun p _ => runTo_step r Y x HY.out hx16 (by rw [HF.out]; omega) _ p), blk_far hg2 (by simp) _, ⟨blk_far hr.out (by simp; omega) _⟩, ⟨below_set hb.out (by omega)⟩⟩
          case measure => simp [intOf]; omega
        · have hdx : decide ((x : Int) < r.f2) = false := by simpa using hxt
          go_wp2
          go_roundw
          case rel =>
            refine ⟨k + 1, by go_num, by omega, hg.congr (fun p _ => ?_), hg2, hb⟩
            rw [HGS.out]
            congr 1
            unfold runTo runIn
            rw [HF.out]
            by_cases c : ((F : Nat) : Int) ≤ ((p % 16 : Nat) : Int)
            · congr 1
              rw [decide_eq_decide]
              omega
            · rw [decide_eq_false c, Bool.and_false, Bool.false_and, Bool.false_and]
          case measure => simp [intOf]; omega
    · have hdk : decide ((k : Int) < (l0.length : Int)) = false := by simp; omega
      have hkl : k = l0.length := by omega
      subst hkl
      have hi : (Try.prog.info? 66).map (·.size) = some (gc (gridF l0)).size := by rw [gc_size]; exact info66
      have hold : (gc fun _ => false).size = (gc (gridF l0)).size := by rw [gc_size, gc_size]
      have h1 := gc_one (gridF l0)
      rw [List.take_length] at hg
      have hg' : wo.heap[w.heap.size + 1]? = some (.cells (gc (gridF l0)) 66 (0, 0)) := hg
      have hg2' : wo.heap[w.heap.size]? = some (.cells (gc fun _ => false) 66 (0, 0)) := hg2
      go_wp2_with (first
        | ((with_reducible refine gate_dst (N := 28) rfl ?_); refine wpList_load_row rfl 66 (.tmp 3) rfl (w.heap.size + 1) rfl 66 (gc (gridF l0)) (0, 0) (.array 16 64) hg' underlying66 rfl hi ?_)
        | ((with_reducible refine wpList_store_row rfl 66 (.tmp 2) (.tmp 28) rfl w.heap.size (gc (gridF l0)) ?hx ?hy 66 (gc fun _ => false) hg2' hi hold h1 ?_); (case hx => rfl); (case hy => rfl)))
      refine bodyPost_ret (results_cell_row rfl _ _ w.heap.size 66 (gc (gridF l0)) (0, 0) (.array 16 64) rfl (hg2.setRow (gridF l0)) underlying66 rfl hi) rfl ?_
      exact ⟨rfl, below_setRow hb.out (Nat.le_refl _) _⟩
end Go.Proofs.Ytfgeickfheogoaa.Q

/- (impl.grid).runs: the runs of a grid, row by row. -/
namespace Go.Proofs.Ytfgeickfheogoaa.Q
open Go.RowKit Go.Proofs.YtfgeickfheogoaaW.PrintWords Go.Proofs.YtfgeickfheogoaaW.PrintLast Go.Proofs.YtfgeickfheogoaaW.PrintMore
attribute [local go_sem] max2_int min2_int max_two min_two max_three min_three max_four min_four
set_option linter.unusedVariables false
set_option linter.unusedSimpArgs false

/-- the end of the run that begins at x or before -/
def endAt (g : Nat → Bool) (y : Nat) : Nat → Nat → Nat
  | 0, x => x
  | n + 1, x => if x < 16 ∧ g (y * 16 + x) = true then endAt g y n (x + 1) else x
theorem endAt_ge (g : Nat → Bool) (y n x : Nat) : x ≤ endAt g y n x := by
  induction n generalizing x with
  | zero => exact Nat.le_refl _
  | succ n ih =>
    unfold endAt
    split
    · exact Nat.le_trans (Nat.le_succ x) (ih (x + 1))
    · exact Nat.le_refl _
/-- the runs of a row from column x on -/
def scanRow (g : Nat → Bool) (y x : Nat) : List S57 :=
  if _h : x < 16 then
    if g (y * 16 + x) = true then ⟨(y : Int), (x : Int), (endAt g y (16 - x) x : Nat)⟩ :: scanRow g y (endAt g y (16 - x) x + 1)
    else scanRow g y (x + 1)
  else []
  termination_by 16 - x
  decreasing_by
    · have := endAt_ge g y (16 - x) x; omega
    · omega
def runsTo (g : Nat → Bool) (y : Nat) : List S57 := (List.range y).flatMap fun y => scanRow g y 0
/-- the runs of a grid -/
def runsL (g : Nat → Bool) : List S57 := runsTo g 16
theorem runsTo_succ (g : Nat → Bool) (y : Nat) : runsTo g (y + 1) = runsTo g y ++ scanRow g y 0 := by
  simp [runsTo, List.range_succ]
theorem scan_true (g : Nat → Bool) (y x : Nat) (h : x < 16) (hg : g (y * 16 + x) = true) : scanRow g y x = ⟨(y : Int), (x : Int), (endAt g y (16 - x) x : Nat)⟩ :: scanRow g y (endAt g y (16 - x) x + 1) := by
  rw [scanRow, dif_pos h, if_pos hg]
theorem scan_false (g : Nat → Bool) (y x : Nat) (h : x < 16) (hg : g (y * 16 + x) = false) : scanRow g y x = scanRow g y (x + 1) := by
  rw [scanRow, dif_pos h, if_neg (by simp [hg])]
theorem scan_end (g : Nat → Bool) (y x : Nat) (h : 16 ≤ x) : scanRow g y x = [] := by
  rw [scanRow, dif_neg (by omega)]
theorem endAt_step (g : Nat → Bool) (y x : Nat) (h : x < 16) (hg : g (y * 16 + x) = true) : endAt g y (16 - x) x = endAt g y (16 - (x + 1)) (x + 1) := by
  rw [show 16 - x = (16 - (x + 1)) + 1 by omega]
  rw [endAt, if_pos ⟨h, hg⟩]
theorem endAt_stop (g : Nat → Bool) (y x : Nat) (h : 16 ≤ x ∨ g (y * 16 + x) = false) : endAt g y (16 - x) x = x := by
  cases hn : 16 - x with
  | zero => rfl
  | succ n => rw [endAt, if_neg (by rcases h with h | h; omega; simp [h])]

set_option maxHeartbeats 4000000 in
set_option maxRecDepth 100000 in
theorem runs_calls (g : Nat → Bool) (w : World) :
    Calls Try.prog 65 #[.agg (gc g)] w fun e w' => ∃ v0_ : Value, e = .returned (v0_) ∧ Kd.R k57 57 w' w.heap.size (fun _ => True) v0_ (runsL g) ∧ Below w.heap.size w w' := by
  have hu := Try.underlying57
  have hgs := gc_size g
  go_enter Try.func65, Try.ntmps65
  go_wp2
  go_loopw [3, 8] (fun v3 v8 W => ∃ y : Nat, v8 = .int .i64 y ∧ y ≤ 16 ∧ Aside0 (Kd.R k57 57 W w.heap.size (fun _ => True) v3 (runsTo g y) ∧ (runsTo g y).length ≤ 17 * y) ∧ GridAt W w.heap.size g ∧ Aside0 (Below w.heap.size w W)) (fun _ v8 _ => 16 - (intOf v8).toNat)
  case atStart =>
    have h := R_empty k57 57 w.heap.size (w.alloc (.cells (gc g) 66)) (by simp)
    simp only [World.size_alloc] at h
    exact ⟨0, rfl, by omega, ⟨h, by simp [runsTo]⟩, (GridAt.new _ _).alloc _, ⟨((Below.refl _ _).alloc (Nat.le_refl _) _).alloc (by simp) _⟩⟩
  case round =>
    obtain ⟨y, rfl, hy, hR, hg, hb⟩ := hrel
    by_cases hlt : y < 16
    · have hdy : decide ((y : Int) < 16) = true := by simp; omega
      go_wp2
      go_loopw [3, 5] (fun v3 v5 W => ∃ (x : Nat) (xs : List S57), v5 = .int .i64 x ∧ x ≤ 17 ∧ Aside0 (Kd.R k57 57 W w.heap.size (fun _ => True) v3 xs ∧ xs.length ≤ 17 * y + x ∧ xs ++ scanRow g y x = runsTo g (y + 1)) ∧ GridAt W w.heap.size g ∧ Aside0 (Below w.heap.size w W)) (fun _ v5 _ => 17 - (intOf v5).toNat)
      case atStart => exact ⟨0, _, rfl, by omega, ⟨hR.out.1, by have := hR.out.2; omega, (runsTo_succ g y).symm⟩, hg, hb⟩
      case round =>
        clear hR hg hb
        obtain ⟨x, xs, rfl, hx, hR, hg, hb⟩ := hrel
        by_cases hlx : x < 16
        · have hdx : decide ((x : Int) < 16) = true := by simp; omega
          have hc := hg.cell (y * 16 + x) (by omega)
          by_cases hv : g (y * 16 + x) = true
          · rw [hv] at hc
            have hs := scan_true g y x hlx hv
            have HS := Aside0.mk hs
            clear hs
            go_wp2
            go_loop [5] (fun v5 => ∃ z : Nat, v5 = .int .i64 z ∧ x ≤ z ∧ z ≤ 16 ∧ Aside0 (endAt g y (16 - z) z = endAt g y (16 - x) x)) (fun v5 => 16 - (intOf v5).toNat)
            case atStart => exact ⟨x, rfl, by omega, by omega, ⟨rfl⟩⟩
            case round =>
              clear hc
              obtain ⟨z, rfl, hxz, hz, hE⟩ := hrel
              have hgz := hg.alloc (.cells #[.int .i64 (y : Int), .int .i64 (x : Int), .int .i64 0] 57)
              by_cases hz16 : z < 16 ∧ g (y * 16 + z) = true
              · obtain ⟨hlz, hvz⟩ := hz16
                have hdz : decide ((z : Int) < 16) = true := by simp; omega
                have hc := hgz.cell (y * 16 + z) (by omega)
                rw [hvz] at hc
                have hE2 := Aside0.mk ((endAt_step g y z hlz hvz).symm.trans hE.out)
                clear hvz hE
                go_wp2
                go_round
                case rel => exact ⟨z + 1, by go_num, by omega, by omega, hE2⟩
                case measure => simp [intOf]; omega
              · have hz17 : 16 ≤ z ∨ g (y * 16 + z) = false := by
                  by_cases h : z < 16
                  · right
                    cases hgv : g (y * 16 + z) with
                    | false => rfl
                    | true => exact absurd ⟨h, hgv⟩ hz16
                  · left; omega
                have hstop := endAt_stop g y z hz17
                have hEZ := Aside0.mk (hE.out.symm.trans hstop)
                have hl24 : xs.length + 1 ≤ 1000 := by have := hR.out.2.1; omega
                have hRB := Aside0.mk (Kd.R_alloc hR.out.1 (.cells #[.int .i64 (y : Int), .int .i64 (x : Int), .int .i64 (z : Int)] 57))
                have hBB := Aside0.mk (below_alloc hb.out (.cells #[.int .i64 (y : Int), .int .i64 (x : Int), .int .i64 (z : Int)] 57))
                have hGB := Aside0.mk (blk_alloc hg (.cells #[.int .i64 (y : Int), .int .i64 (x : Int), .int .i64 (z : Int)] 57))
                have hNE := Aside0.mk (Kd.R_ne hRB.out hGB.out (by decide))
                clear hstop hE hz16
                rcases hz17 with hz17 | hz17
                · have hdz : decide ((z : Int) < 16) = false := by simp; omega
                  go_wp2_with (first | ((with_reducible refine gate_builtin (b := .append) (xs := #[.tmp 37, .tmp 39]) rfl ?_); at_builtin; refine Kd.R_append k57 w.heap.size rfl (.tmp 37) (.tmp 39) 25 57 (.agg #[(.int .i64 0), (.int .i64 0), (.int .i64 0)]) 24 rfl Try.underlying25 info57 rfl (by decide) (by omega) u3 xs (⟨(y : Int), (x : Int), (z : Int)⟩ : S57) [.int .i64 (y : Int), .int .i64 (x : Int), .int .i64 (z : Int)] (fun _ => True) (fun _ => False) rfl ?aX ?aP (fun _ hk => hk.elim) (fun _ _ => trivial) hRB.out hBB.out ?aS ?aL ?_; (case aX => rw [World.size_alloc]; rfl); (case aP => exact k57_mkM _ _ _ (⟨(y : Int), (x : Int), (z : Int)⟩ : S57)); (case aS => exact hBB.out.size); (case aL => omega); intro v4 w4 ho hb4 hg4 hat4; have hG4 := Aside0.mk (blk_grown hGB.out hg4 hNE.out); have hO4 := Aside0.mk ho; have hB4 := Aside0.mk hb4; clear ho hb4 hg4 hat4))
                  go_roundw
                  case rel =>
                    refine ⟨z + 1, xs ++ [⟨(y : Int), (x : Int), (z : Int)⟩], by go_num, by omega, ⟨hO4.out, by have := hR.out.2.1; rw [List.length_append]; simp; omega, ?_⟩, hG4.out, hB4⟩
                    have h1 := hR.out.2.2
                    rw [HS.out, hEZ.out] at h1
                    rw [List.append_assoc]; exact h1
                  case measure => simp [intOf]; omega
                · by_cases hlz : z < 16
                  · have hdz : decide ((z : Int) < 16) = true := by simp; omega
                    have hc := hgz.cell (y * 16 + z) (by omega)
                    rw [hz17] at hc
                    go_wp2_with (first | ((with_reducible refine gate_builtin (b := .append) (xs := #[.tmp 37, .tmp 39]) rfl ?_); at_builtin; refine Kd.R_append k57 w.heap.size rfl (.tmp 37) (.tmp 39) 25 57 (.agg #[(.int .i64 0), (.int .i64 0), (.int .i64 0)]) 24 rfl Try.underlying25 info57 rfl (by decide) (by omega) u3 xs (⟨(y : Int), (x : Int), (z : Int)⟩ : S57) [.int .i64 (y : Int), .int .i64 (x : Int), .int .i64 (z : Int)] (fun _ => True) (fun _ => False) rfl ?aX ?aP (fun _ hk => hk.elim) (fun _ _ => trivial) hRB.out hBB.out ?aS ?aL ?_; (case aX => rw [World.size_alloc]; rfl); (case aP => exact k57_mkM _ _ _ (⟨(y : Int), (x : Int), (z : Int)⟩ : S57)); (case aS => exact hBB.out.size); (case aL => omega); intro v4 w4 ho hb4 hg4 hat4; have hG4 := Aside0.mk (blk_grown hGB.out hg4 hNE.out); have hO4 := Aside0.mk ho; have hB4 := Aside0.mk hb4; clear ho hb4 hg4 hat4))
                    go_roundw
                    case rel =>
                      refine ⟨z + 1, xs ++ [⟨(y : Int), (x : Int), (z : Int)⟩], by go_num, by omega, ⟨hO4.out, by have := hR.out.2.1; rw [List.length_append]; simp; omega, ?_⟩, hG4.out, hB4⟩
                      have h1 := hR.out.2.2
                      rw [HS.out, hEZ.out] at h1
                      rw [List.append_assoc]; exact h1
                    case measure => simp [intOf]; omega

                  · have hdz : decide ((z : Int) < 16) = false := by simp; omega
                    go_wp2_with (first | ((with_reducible refine gate_builtin (b := .append) (xs := #[.tmp 37, .tmp 39]) rfl ?_); at_builtin; refine Kd.R_append k57 w.heap.size rfl (.tmp 37) (.tmp 39) 25 57 (.agg #[(.int .i64 0), (.int .i64 0), (.int .i64 0)]) 24 rfl Try.underlying25 info57 rfl (by decide) (by omega) u3 xs (⟨(y : Int), (x : Int), (z : Int)⟩ : S57) [.int .i64 (y : Int), .int .i64 (x : Int), .int .i64 (z : Int)] (fun _ => True) (fun _ => False) rfl ?aX ?aP (fun _ hk => hk.elim) (fun _ _ => trivial) hRB.out hBB.out ?aS ?aL ?_; (case aX => rw [World.size_alloc]; rfl); (case aP => exact k57_mkM _ _ _ (⟨(y : Int), (x : Int), (z : Int)⟩ : S57)); (case aS => exact hBB.out.size); (case aL => omega); intro v4 w4 ho hb4 hg4 hat4; have hG4 := Aside0.mk (blk_grown hGB.out hg4 hNE.out); have hO4 := Aside0.mk ho; have hB4 := Aside0.mk hb4; clear ho hb4 hg4 hat4))
                    go_roundw
                    case rel =>
                      refine ⟨z + 1, xs ++ [⟨(y : Int), (x : Int), (z : Int)⟩], by go_num, by omega, ⟨hO4.out, by have := hR.out.2.1; rw [List.length_append]; simp; omega, ?_⟩, hG4.out, hB4⟩
                      have h1 := hR.out.2.2
                      rw [HS.out, hEZ.out] at h1
                      rw [List.append_assoc]; exact h1
                    case measure => simp [intOf]; omega
          · replace hv : g (y * 16 + x) = false := by simpa using hv
            rw [hv] at hc
            have hs := scan_false g y x hlx hv
            have HS := Aside0.mk hs
            clear hs
            go_wp2
            go_roundw
            case rel => exact ⟨x + 1, xs, by go_num, by omega, ⟨hR.out.1, by have := hR.out.2.1; omega, by rw [← HS.out]; exact hR.out.2.2⟩, hg, hb⟩
            case measure => simp [intOf]; omega
        · have hdx : decide ((x : Int) < 16) = false := by simp; omega
          have he := scan_end g y x (by omega)
          have HE := Aside0.mk he
          clear he
          go_wp2
          go_roundw
          case rel =>
            have h1 := hR.out.2.2
            rw [HE.out, List.append_nil] at h1
            exact ⟨y + 1, by go_num, by omega, ⟨by rw [← h1]; exact hR.out.1, by rw [← h1]; have := hR.out.2.1; omega⟩, hg, hb⟩
          case measure => simp [intOf]; omega
    · have hdy : decide ((y : Int) < 16) = false := by simp; omega
      have hy16 : y = 16 := by omega
      subst hy16
      go_wp2
      go_ret
      exact ⟨_, rfl, hR.out.1, hb.out⟩
end Go.Proofs.Ytfgeickfheogoaa.Q

namespace Go.Proofs.Ytfgeickfheogoaa.Q
open Go.RowKit Go.Proofs.YtfgeickfheogoaaW.PrintWords Go.Proofs.YtfgeickfheogoaaW.PrintLast Go.Proofs.YtfgeickfheogoaaW.PrintMore
attribute [local go_sem] max2_int min2_int max_two min_two max_three min_three max_four min_four
set_option linter.unusedVariables false
set_option linter.unusedSimpArgs false
/-! ### impl_isRegion: function 55 -/
mutual
def impl_isRegion.l0 : Nat → List (S57) → List (S57) → Int → Int → Option (Bool)
  | 0, _, _, _, _ => none
  | k + 1, x0, x6, x7, x8 => if x8 < x7 then (if 0 ≤ x8 then (if x8 < (x6.length : Int) then (if ((rd_T57 x6 x8).f0) < 0 then (impl_isRegion.j1 k x0 x8 x6 x7 x8 true ((rd_T57 x6 x8).f0) ((rd_T57 x6 x8).f1) ((rd_T57 x6 x8).f2)) else (if ((rd_T57 x6 x8).f0) ≥ 16 then (impl_isRegion.j1 k x0 x8 x6 x7 x8 true ((rd_T57 x6 x8).f0) ((rd_T57 x6 x8).f1) ((rd_T57 x6 x8).f2)) else (if ((rd_T57 x6 x8).f1) < 0 then (impl_isRegion.j1 k x0 x8 x6 x7 x8 true ((rd_T57 x6 x8).f0) ((rd_T57 x6 x8).f1) ((rd_T57 x6 x8).f2)) else (if ((rd_T57 x6 x8).f2) ≤ ((rd_T57 x6 x8).f1) then (impl_isRegion.j1 k x0 x8 x6 x7 x8 true ((rd_T57 x6 x8).f0) ((rd_T57 x6 x8).f1) ((rd_T57 x6 x8).f2)) else (impl_isRegion.j1 k x0 x8 x6 x7 x8 (decide (((rd_T57 x6 x8).f2) > 16)) ((rd_T57 x6 x8).f0) ((rd_T57 x6 x8).f1) ((rd_T57 x6 x8).f2)))))) else (none)) else (none)) else (some true)
def impl_isRegion.j1 : Nat → List (S57) → Int → List (S57) → Int → Int → Bool → Int → Int → Int → Option (Bool)
  | 0, _, _, _, _, _, _, _, _, _ => none
  | k + 1, x0, x3, x6, x7, x8, x37, x56003000, x56003001, x56003002 => if x37 = true then (some false) else (if x3 = 0 then (impl_isRegion.l0 k x0 x6 x7 (wrap64 (x8 + 1))) else (if 0 ≤ (wrap64 (x3 - 1)) then (if (wrap64 (x3 - 1)) < (x0.length : Int) then (if x56003000 < ((rd_T57 x0 (wrap64 (x3 - 1))).f0) then (some false) else (if x56003000 = ((rd_T57 x0 (wrap64 (x3 - 1))).f0) then (if x56003001 ≤ ((rd_T57 x0 (wrap64 (x3 - 1))).f2) then (some false) else (impl_isRegion.l0 k x0 x6 x7 (wrap64 (x8 + 1)))) else (impl_isRegion.l0 k x0 x6 x7 (wrap64 (x8 + 1))))) else (none)) else (none)))
end
def impl_isRegion.f (k : Nat) (l0 : List (S57)) : Option (Bool) := impl_isRegion.l0 k l0 l0 (l0.length : Int) 0
theorem impl_isRegion.mono_l : ∀ k, (∀ y0 y1 y2 y3, LeO (impl_isRegion.l0 k y0 y1 y2 y3) (impl_isRegion.l0 (k + 1) y0 y1 y2 y3)) ∧ (∀ y0 y1 y2 y3 y4 y5 y6 y7 y8, LeO (impl_isRegion.j1 k y0 y1 y2 y3 y4 y5 y6 y7 y8) (impl_isRegion.j1 (k + 1) y0 y1 y2 y3 y4 y5 y6 y7 y8))
  | 0 => ⟨fun _ _ _ _ r h => by simp [impl_isRegion.l0] at h, fun _ _ _ _ _ _ _ _ _ r h => by simp [impl_isRegion.j1] at h⟩
  | k + 1 => by
    obtain ⟨ih0, ih1⟩ := impl_isRegion.mono_l k
    refine ⟨?_, ?_⟩
    · intro y0 y1 y2 y3
      unfold impl_isRegion.l0
      repeat' first
      | (with_reducible exact ih0 _ _ _ _)
      | (with_reducible exact ih1 _ _ _ _ _ _ _ _ _)
      | (with_reducible exact LeO.refl _)
      | (with_reducible exact LeO.none _)
      | (with_reducible refine LeO.ite ?_ ?_)
      | (with_reducible refine LeO.bind ?_ (fun _ => ?_))
      | exact ih0 _ _ _ _
      | exact ih1 _ _ _ _ _ _ _ _ _
      | exact LeO.none _
      | refine LeO.ite ?_ ?_
      | refine LeO.bind ?_ (fun _ => ?_)
    · intro y0 y1 y2 y3 y4 y5 y6 y7 y8
      unfold impl_isRegion.j1
      repeat' first
      | (with_reducible exact ih0 _ _ _ _)
      | (with_reducible exact ih1 _ _ _ _ _ _ _ _ _)
      | (with_reducible exact LeO.refl _)
      | (with_reducible exact LeO.none _)
      | (with_reducible refine LeO.ite ?_ ?_)
      | (with_reducible refine LeO.bind ?_ (fun _ => ?_))
      | exact ih0 _ _ _ _
      | exact ih1 _ _ _ _ _ _ _ _ _
      | exact LeO.none _
      | refine LeO.ite ?_ ?_
      | refine LeO.bind ?_ (fun _ => ?_)
theorem impl_isRegion.mono : ∀ a0 k, LeO (impl_isRegion.f k a0) (impl_isRegion.f (k + 1) a0) := by
  intro a0 k
  obtain ⟨ih0, ih1⟩ := impl_isRegion.mono_l k
  unfold impl_isRegion.f
  repeat' first
      | (with_reducible exact ih0 _ _ _ _)
      | (with_reducible exact ih1 _ _ _ _ _ _ _ _ _)
      | (with_reducible exact LeO.refl _)
      | (with_reducible exact LeO.none _)
      | (with_reducible refine LeO.ite ?_ ?_)
      | (with_reducible refine LeO.bind ?_ (fun _ => ?_))
      | exact ih0 _ _ _ _
      | exact ih1 _ _ _ _ _ _ _ _ _
      | exact LeO.none _
      | refine LeO.ite ?_ ?_
      | refine LeO.bind ?_ (fun _ => ?_)
set_option maxHeartbeats 8000000 in
set_option maxRecDepth 100000 in
theorem impl_isRegion.calls (k : Nat) (A0 : Option Addr) (c0 : Nat) (l0 : List (S57)) (r : Bool) (w : World) (hr0 : Kd.C k57 w A0 l0.length l0) (hc0 : l0.length ≤ c0) (h : impl_isRegion.f k l0 = some r) :
    Calls Try.prog 55 #[.slice A0 l0.length c0] w fun e w' => e = .returned (.bool r) ∧ Below w.heap.size w w' := by
  have hu57 := Try.underlying57
  have HR0 := Aside0.mk hr0
  have HC0 := Aside0.mk hc0
  clear hr0 hc0
  have HB := Aside0.mk (Below.refl w.heap.size w)
  have H : (impl_isRegion.l0 k l0 l0 (l0.length : Int) 0) = some r := h
  clear h
  have H' := Aside0.mk H
  clear H
  go_enter Try.func55, Try.ntmps55
  go_wp2
  go_loopg [8] k (fun kq v8 w' => ∃ (x8_1 : Int), v8 = .int .i64 x8_1 ∧ Aside0 (impl_isRegion.l0 kq l0 l0 (l0.length : Int) x8_1 = some r) ∧ Aside0 (kq ≤ k) ∧ Aside0 (Below w.heap.size w w'))
  case atStart => exact ⟨(0), (by first | rfl | (simp; done) | (simp [*]; done)), H', ⟨Nat.le_refl _⟩, ⟨by repeat (first | (with_reducible first | exact HB.out | apply below_alloc | apply pw_below_drewN | apply below_drew1) | exact HB.out)⟩⟩
  case round =>
    clear H'
    obtain ⟨x8_1, rfl, HA, HK1, HB⟩ := hrel
    cases gk with
    | zero => exact absurd HA.out (by simp [impl_isRegion.l0])
    | succ k1 =>
      have H := HA.out
      clear HA
      simp only [impl_isRegion.l0] at H
      by_cases c2 : x8_1 < (l0.length : Int)
      · rw [if_pos c2] at H
        have c2b0 : decide (x8_1 < (l0.length : Int)) = true := decide_eq_true c2
        clear c2
        by_cases c3 : 0 ≤ x8_1
        · rw [if_pos c3] at H
          have c3b0 : decide (0 ≤ x8_1) = true := decide_eq_true c3
          clear c3
          by_cases c4 : x8_1 < (l0.length : Int)
          · rw [if_pos c4] at H
            have c4b0 : decide (x8_1 < (l0.length : Int)) = true := decide_eq_true c4
            clear c4
            have HC5 := Aside0.mk H
            clear H
            have p56001 : 0 ≤ (x8_1 : Int) := of_decide_eq_true (by first | (with_reducible assumption) | assumption)
            have q56001 : x8_1 < (l0.length : Int) := of_decide_eq_true (by first | (with_reducible assumption) | assumption)
            obtain ⟨ad56001, e56001, hx56001_0, hx56001_1, hx56001_2⟩ := at_T57 HR0.out x8_1 p56001 q56001
            cases e56001
            replace hx56001_0 := (HB.out.cell (World.block_lt_of_cell? w _ hx56001_0)).trans hx56001_0
            replace hx56001_1 := (HB.out.cell (World.block_lt_of_cell? w _ hx56001_1)).trans hx56001_1
            replace hx56001_2 := (HB.out.cell (World.block_lt_of_cell? w _ hx56001_2)).trans hx56001_2
            replace p56001 := eq_true p56001
            replace q56001 := eq_true q56001
            go_upto_region 4 with (first | ((with_reducible refine gate_dst (N := 4) rfl ?_); refine box_event ?hg (N := 4) ?hd (cs := #[.int .i64 0, .int .i64 0, .int .i64 0]) (t := 57) ?hr ?_; (case hd => rfl); (case hg => rfl); (case hr => first | (go_simp; done) | (go_simp; rfl)); intro gb56002 hg w6 hbox hb; have n0_ := Aside0.mk (below_step (by repeat (first | (with_reducible first | exact HB.out | apply below_alloc | apply pw_below_drewN | apply below_drew1) | exact HB.out)) hb); have n1_ := Aside0.mk (hbox); have n2_ := Aside0.mk ((by rw [hg]; exact (below_size (by repeat (first | (with_reducible first | exact HB.out | apply below_alloc | apply pw_below_drewN | apply below_drew1) | exact HB.out))) : w.heap.size ≤ gb56002)); have n3_ := Aside0.mk ((by rw [hg]; exact (below_size (by repeat (first | (with_reducible first | exact HB.out | apply below_alloc | apply pw_below_drewN | apply below_drew1) | exact HB.out))) : w.heap.size ≤ gb56002)); clear HB; have HB := n0_; have BK56002 := n1_; have GW56002 := n2_; have GE56002 := n3_; clear n0_ n1_ n2_ n3_; clear hb hbox hg; have hcz7_0 : w6.cell? ⟨gb56002, 0, none⟩ = some (.int .i64 0) := (blk_cell BK56002.out 0).trans rfl; have hcz7_1 : w6.cell? ⟨gb56002, 1, none⟩ = some (.int .i64 0) := (blk_cell BK56002.out 1).trans rfl; have hcz7_2 : w6.cell? ⟨gb56002, 2, none⟩ = some (.int .i64 0) := (blk_cell BK56002.out 2).trans rfl; have hfz7_0 := blk_frozen BK56002.out 0; have hfz7_1 := blk_frozen BK56002.out 1; have hfz7_2 := blk_frozen BK56002.out 2))
            (try simp only [Act.put, List.setIfInBounds_toArray, List.set_cons_zero, List.set_cons_succ])
            go_cut [37] (fun v37 wc => ∃ (kq : Nat) (x37_4 : Bool), v37 = .bool x37_4 ∧ Aside0 (impl_isRegion.j1 kq l0 x8_1 l0 (l0.length : Int) x8_1 x37_4 ((rd_T57 l0 x8_1).f0) ((rd_T57 l0 x8_1).f1) ((rd_T57 l0 x8_1).f2) = some r) ∧ Aside0 (kq ≤ k1) ∧ Aside0 (wc.heap[gb56002]? = some (.cells #[.int .i64 ((rd_T57 l0 x8_1).f0), .int .i64 ((rd_T57 l0 x8_1).f1), .int .i64 ((rd_T57 l0 x8_1).f2)] 57 (0, 0))) ∧ Aside0 (Below w.heap.size w wc))
            case first =>
              have H := HC5.out
              clear HC5
              by_cases c8 : ((rd_T57 l0 x8_1).f0) < 0
              · rw [if_pos c8] at H
                have c8b0 : decide (((rd_T57 l0 x8_1).f0) < 0) = true := decide_eq_true c8
                clear c8
                (first | rw [c8b0] | (simp only [i64_w, i32_w]; rw [c8b0]) | skip)
                have H' := Aside0.mk H
                clear H
                have hcz9_0 : w6.cell? ⟨gb56002, 0, none⟩ = some (.int .i64 0) := (blk_cell BK56002.out 0).trans rfl
                have hcz9_1 : w6.cell? ⟨gb56002, 1, none⟩ = some (.int .i64 0) := (blk_cell BK56002.out 1).trans rfl
                have hcz9_2 : w6.cell? ⟨gb56002, 2, none⟩ = some (.int .i64 0) := (blk_cell BK56002.out 2).trans rfl
                have hfz9_0 := blk_frozen BK56002.out 0
                have hfz9_1 := blk_frozen BK56002.out 1
                have hfz9_2 := blk_frozen BK56002.out 2
                go_wp2
                go_meet
                case rel => exact ⟨_, (true), (by first | rfl | (simp; done) | (simp [*]; done)), H', ⟨by have := HK1.out; first | omega | exact Nat.le_refl _⟩, ⟨by (with_reducible repeat (first | refine blk_drewN ?_ _ | refine blk_drew ?_ | refine blk_alloc ?_ _)); refine blk_put (cs := #[.int .i64 ((rd_T57 l0 x8_1).f0), .int .i64 ((rd_T57 l0 x8_1).f1), .int .i64 0]) ?_ 2 _ rfl; (with_reducible repeat (first | refine blk_drewN ?_ _ | refine blk_drew ?_ | refine blk_alloc ?_ _)); refine blk_put (cs := #[.int .i64 ((rd_T57 l0 x8_1).f0), .int .i64 0, .int .i64 0]) ?_ 1 _ rfl; (with_reducible repeat (first | refine blk_drewN ?_ _ | refine blk_drew ?_ | refine blk_alloc ?_ _)); refine blk_put (cs := #[.int .i64 0, .int .i64 0, .int .i64 0]) ?_ 0 _ rfl; (with_reducible repeat (first | refine blk_drewN ?_ _ | refine blk_drew ?_ | refine blk_alloc ?_ _)); exact BK56002.out⟩, ⟨by repeat (first | (with_reducible first | exact HB.out | apply below_alloc | apply pw_below_drewN | apply below_drew1 | refine below_set ?_ GE56002.out) | exact HB.out)⟩⟩
              · rw [if_neg c8] at H
                have c8b0 : decide (((rd_T57 l0 x8_1).f0) < 0) = false := decide_eq_false c8
                clear c8
                (first | rw [c8b0] | (simp only [i64_w, i32_w]; rw [c8b0]) | skip)
                by_cases c10 : ((rd_T57 l0 x8_1).f0) ≥ 16
                · rw [if_pos c10] at H
                  have c10b0 : decide (16 ≤ ((rd_T57 l0 x8_1).f0)) = true := decide_eq_true c10
                  clear c10
                  have H' := Aside0.mk H
                  clear H
                  have hcz11_0 : w6.cell? ⟨gb56002, 0, none⟩ = some (.int .i64 0) := (blk_cell BK56002.out 0).trans rfl
                  have hcz11_1 : w6.cell? ⟨gb56002, 1, none⟩ = some (.int .i64 0) := (blk_cell BK56002.out 1).trans rfl
                  have hcz11_2 : w6.cell? ⟨gb56002, 2, none⟩ = some (.int .i64 0) := (blk_cell BK56002.out 2).trans rfl
                  have hfz11_0 := blk_frozen BK56002.out 0
                  have hfz11_1 := blk_frozen BK56002.out 1
                  have hfz11_2 := blk_frozen BK56002.out 2
                  go_wp2
                  go_meet
                  case rel => exact ⟨_, (true), (by first | rfl | (simp; done) | (simp [*]; done)), H', ⟨by have := HK1.out; first | omega | exact Nat.le_refl _⟩, ⟨by (with_reducible repeat (first | refine blk_drewN ?_ _ | refine blk_drew ?_ | refine blk_alloc ?_ _)); refine blk_put (cs := #[.int .i64 ((rd_T57 l0 x8_1).f0), .int .i64 ((rd_T57 l0 x8_1).f1), .int .i64 0]) ?_ 2 _ rfl; (with_reducible repeat (first | refine blk_drewN ?_ _ | refine blk_drew ?_ | refine blk_alloc ?_ _)); refine blk_put (cs := #[.int .i64 ((rd_T57 l0 x8_1).f0), .int .i64 0, .int .i64 0]) ?_ 1 _ rfl; (with_reducible repeat (first | refine blk_drewN ?_ _ | refine blk_drew ?_ | refine blk_alloc ?_ _)); refine blk_put (cs := #[.int .i64 0, .int .i64 0, .int .i64 0]) ?_ 0 _ rfl; (with_reducible repeat (first | refine blk_drewN ?_ _ | refine blk_drew ?_ | refine blk_alloc ?_ _)); exact BK56002.out⟩, ⟨by repeat (first | (with_reducible first | exact HB.out | apply below_alloc | apply pw_below_drewN | apply below_drew1 | refine below_set ?_ GE56002.out) | exact HB.out)⟩⟩
                · rw [if_neg c10] at H
                  have c10b0 : decide (16 ≤ ((rd_T57 l0 x8_1).f0)) = false := decide_eq_false c10
                  clear c10
                  by_cases c12 : ((rd_T57 l0 x8_1).f1) < 0
                  · rw [if_pos c12] at H
                    have c12b0 : decide (((rd_T57 l0 x8_1).f1) < 0) = true := decide_eq_true c12
                    clear c12
                    have H' := Aside0.mk H
                    clear H
                    have hcz13_0 : w6.cell? ⟨gb56002, 0, none⟩ = some (.int .i64 0) := (blk_cell BK56002.out 0).trans rfl
                    have hcz13_1 : w6.cell? ⟨gb56002, 1, none⟩ = some (.int .i64 0) := (blk_cell BK56002.out 1).trans rfl
                    have hcz13_2 : w6.cell? ⟨gb56002, 2, none⟩ = some (.int .i64 0) := (blk_cell BK56002.out 2).trans rfl
                    have hfz13_0 := blk_frozen BK56002.out 0
                    have hfz13_1 := blk_frozen BK56002.out 1
                    have hfz13_2 := blk_frozen BK56002.out 2
                    go_wp2
                    go_meet
                    case rel => exact ⟨_, (true), (by first | rfl | (simp; done) | (simp [*]; done)), H', ⟨by have := HK1.out; first | omega | exact Nat.le_refl _⟩, ⟨by (with_reducible repeat (first | refine blk_drewN ?_ _ | refine blk_drew ?_ | refine blk_alloc ?_ _)); refine blk_put (cs := #[.int .i64 ((rd_T57 l0 x8_1).f0), .int .i64 ((rd_T57 l0 x8_1).f1), .int .i64 0]) ?_ 2 _ rfl; (with_reducible repeat (first | refine blk_drewN ?_ _ | refine blk_drew ?_ | refine blk_alloc ?_ _)); refine blk_put (cs := #[.int .i64 ((rd_T57 l0 x8_1).f0), .int .i64 0, .int .i64 0]) ?_ 1 _ rfl; (with_reducible repeat (first | refine blk_drewN ?_ _ | refine blk_drew ?_ | refine blk_alloc ?_ _)); refine blk_put (cs := #[.int .i64 0, .int .i64 0, .int .i64 0]) ?_ 0 _ rfl; (with_reducible repeat (first | refine blk_drewN ?_ _ | refine blk_drew ?_ | refine blk_alloc ?_ _)); exact BK56002.out⟩, ⟨by repeat (first | (with_reducible first | exact HB.out | apply below_alloc | apply pw_below_drewN | apply below_drew1 | refine below_set ?_ GE56002.out) | exact HB.out)⟩⟩
                  · rw [if_neg c12] at H
                    have c12b0 : decide (((rd_T57 l0 x8_1).f1) < 0) = false := decide_eq_false c12
                    clear c12
                    by_cases c14 : ((rd_T57 l0 x8_1).f2) ≤ ((rd_T57 l0 x8_1).f1)
                    · rw [if_pos c14] at H
                      have c14b0 : decide (((rd_T57 l0 x8_1).f2) ≤ ((rd_T57 l0 x8_1).f1)) = true := decide_eq_true c14
                      clear c14
                      have H' := Aside0.mk H
                      clear H
                      have hcz15_0 : w6.cell? ⟨gb56002, 0, none⟩ = some (.int .i64 0) := (blk_cell BK56002.out 0).trans rfl
                      have hcz15_1 : w6.cell? ⟨gb56002, 1, none⟩ = some (.int .i64 0) := (blk_cell BK56002.out 1).trans rfl
                      have hcz15_2 : w6.cell? ⟨gb56002, 2, none⟩ = some (.int .i64 0) := (blk_cell BK56002.out 2).trans rfl
                      have hfz15_0 := blk_frozen BK56002.out 0
                      have hfz15_1 := blk_frozen BK56002.out 1
                      have hfz15_2 := blk_frozen BK56002.out 2
                      go_wp2
                      go_meet
                      case rel => exact ⟨_, (true), (by first | rfl | (simp; done) | (simp [*]; done)), H', ⟨by have := HK1.out; first | omega | exact Nat.le_refl _⟩, ⟨by (with_reducible repeat (first | refine blk_drewN ?_ _ | refine blk_drew ?_ | refine blk_alloc ?_ _)); refine blk_put (cs := #[.int .i64 ((rd_T57 l0 x8_1).f0), .int .i64 ((rd_T57 l0 x8_1).f1), .int .i64 0]) ?_ 2 _ rfl; (with_reducible repeat (first | refine blk_drewN ?_ _ | refine blk_drew ?_ | refine blk_alloc ?_ _)); refine blk_put (cs := #[.int .i64 ((rd_T57 l0 x8_1).f0), .int .i64 0, .int .i64 0]) ?_ 1 _ rfl; (with_reducible repeat (first | refine blk_drewN ?_ _ | refine blk_drew ?_ | refine blk_alloc ?_ _)); refine blk_put (cs := #[.int .i64 0, .int .i64 0, .int .i64 0]) ?_ 0 _ rfl; (with_reducible repeat (first | refine blk_drewN ?_ _ | refine blk_drew ?_ | refine blk_alloc ?_ _)); exact BK56002.out⟩, ⟨by repeat (first | (with_reducible first | exact HB.out | apply below_alloc | apply pw_below_drewN | apply below_drew1 | refine below_set ?_ GE56002.out) | exact HB.out)⟩⟩
                    · rw [if_neg c14] at H
                      have c14b0 : decide (((rd_T57 l0 x8_1).f2) ≤ ((rd_T57 l0 x8_1).f1)) = false := decide_eq_false c14
                      clear c14
                      have H' := Aside0.mk H
                      clear H
                      have hcz16_0 : w6.cell? ⟨gb56002, 0, none⟩ = some (.int .i64 0) := (blk_cell BK56002.out 0).trans rfl
                      have hcz16_1 : w6.cell? ⟨gb56002, 1, none⟩ = some (.int .i64 0) := (blk_cell BK56002.out 1).trans rfl
                      have hcz16_2 : w6.cell? ⟨gb56002, 2, none⟩ = some (.int .i64 0) := (blk_cell BK56002.out 2).trans rfl
                      have hfz16_0 := blk_frozen BK56002.out 0
                      have hfz16_1 := blk_frozen BK56002.out 1
                      have hfz16_2 := blk_frozen BK56002.out 2
                      go_wp2
                      go_meet
                      case rel => exact ⟨_, (decide (((rd_T57 l0 x8_1).f2) > 16)), (by first | rfl | (simp; done) | (simp [*]; done)), H', ⟨by have := HK1.out; first | omega | exact Nat.le_refl _⟩, ⟨by (with_reducible repeat (first | refine blk_drewN ?_ _ | refine blk_drew ?_ | refine blk_alloc ?_ _)); refine blk_put (cs := #[.int .i64 ((rd_T57 l0 x8_1).f0), .int .i64 ((rd_T57 l0 x8_1).f1), .int .i64 0]) ?_ 2 _ rfl; (with_reducible repeat (first | refine blk_drewN ?_ _ | refine blk_drew ?_ | refine blk_alloc ?_ _)); refine blk_put (cs := #[.int .i64 ((rd_T57 l0 x8_1).f0), .int .i64 0, .int .i64 0]) ?_ 1 _ rfl; (with_reducible repeat (first | refine blk_drewN ?_ _ | refine blk_drew ?_ | refine blk_alloc ?_ _)); refine blk_put (cs := #[.int .i64 0, .int .i64 0, .int .i64 0]) ?_ 0 _ rfl; (with_reducible repeat (first | refine blk_drewN ?_ _ | refine blk_drew ?_ | refine blk_alloc ?_ _)); exact BK56002.out⟩, ⟨by repeat (first | (with_reducible first | exact HB.out | apply below_alloc | apply pw_below_drewN | apply below_drew1 | refine below_set ?_ GE56002.out) | exact HB.out)⟩⟩
            case rest =>
              clear HC5
              try clear c1
              try clear c2
              try clear c2b0
              try clear p2
              try clear c3
              try clear c3b0
              try clear c4
              try clear c4b0
              try clear c5
              try clear p5
              try clear q5
              try clear hx5
              try clear c8
              try clear c8b0
              try clear c10
              try clear c10b0
              try clear c12
              try clear c12b0
              try clear c14
              try clear c14b0
              try clear hcz11_0
              try clear hcz11_1
              try clear hcz11_2
              try clear hcz13_0
              try clear hcz13_1
              try clear hcz13_2
              try clear hcz15_0
              try clear hcz15_1
              try clear hcz15_2
              try clear hcz16_0
              try clear hcz16_1
              try clear hcz16_2
              try clear hcz7_0
              try clear hcz7_1
              try clear hcz7_2
              try clear hcz9_0
              try clear hcz9_1
              try clear hcz9_2
              try clear hfz11_0
              try clear hfz11_1
              try clear hfz11_2
              try clear hfz13_0
              try clear hfz13_1
              try clear hfz13_2
              try clear hfz15_0
              try clear hfz15_1
              try clear hfz15_2
              try clear hfz16_0
              try clear hfz16_1
              try clear hfz16_2
              try clear hfz7_0
              try clear hfz7_1
              try clear hfz7_2
              try clear hfz9_0
              try clear hfz9_1
              try clear hfz9_2
              try clear hx56001_0
              try clear hx56001_1
              try clear hx56001_2
              try clear p56001
              try clear q56001
              obtain ⟨kq, x37_4, rfl, HA, HJ4, BK56002, HB⟩ := hcut
              cases kq with
              | zero => exact absurd HA.out (by simp [impl_isRegion.j1])
              | succ kj4 =>
                have H := HA.out
                clear HA
                simp only [impl_isRegion.j1] at H
                by_cases c17 : x37_4 = true
                · subst c17
                  have H1 : (some false) = some r := by rw [if_pos rfl] at H; exact H
                  clear H
                  have H := H1
                  clear H1
                  obtain rfl := Option.some.inj H
                  go_wp2
                  go_ret
                  exact ⟨by first | rfl | (simp [errW_none, errW_some] <;> rfl) | (simp [*, errW_none, errW_some] <;> rfl), by repeat (first | (with_reducible first | exact HB.out | apply below_alloc | apply pw_below_drewN | apply below_drew1 | refine below_set ?_ GE56002.out) | exact HB.out)⟩
                · replace c17 := Bool.eq_false_iff.mpr c17
                  subst c17
                  have H1 : (if x8_1 = 0 then (impl_isRegion.l0 kj4 l0 l0 (l0.length : Int) (wrap64 (x8_1 + 1))) else (if 0 ≤ (wrap64 (x8_1 - 1)) then (if (wrap64 (x8_1 - 1)) < (l0.length : Int) then (if ((rd_T57 l0 x8_1).f0) < ((rd_T57 l0 (wrap64 (x8_1 - 1))).f0) then (some false) else (if ((rd_T57 l0 x8_1).f0) = ((rd_T57 l0 (wrap64 (x8_1 - 1))).f0) then (if ((rd_T57 l0 x8_1).f1) ≤ ((rd_T57 l0 (wrap64 (x8_1 - 1))).f2) then (some false) else (impl_isRegion.l0 kj4 l0 l0 (l0.length : Int) (wrap64 (x8_1 + 1)))) else (impl_isRegion.l0 kj4 l0 l0 (l0.length : Int) (wrap64 (x8_1 + 1))))) else (none)) else (none))) = some r := by rw [if_neg (show ¬ (false = true) by decide)] at H; exact H
                  clear H
                  have H := H1
                  clear H1
                  by_cases c18 : x8_1 = 0
                  · rw [if_pos c18] at H
                    have c18b0 : (x8_1 == 0) = true := beq_iff_eq.mpr c18
                    have c18b1 : (x8_1 != 0) = false := bne_eq_false_iff_eq.mpr c18
                    clear c18
                    have H' := Aside0.mk H
                    clear H
                    go_wp2
                    go_roundg kj4
                    case measure => have := HK1.out; have := HJ4.out; omega
                    case rel => exact ⟨(wrap64 (x8_1 + 1)), (by first | rfl | (simp; done) | (simp [*]; done)), H', ⟨by have := HK1.out; have := HJ4.out; omega⟩, ⟨by repeat (first | (with_reducible first | exact HB.out | apply below_alloc | apply pw_below_drewN | apply below_drew1 | refine below_set ?_ GE56002.out) | exact HB.out)⟩⟩
                  · rw [if_neg c18] at H
                    have c18b0 : (x8_1 == 0) = false := beq_eq_false_iff_ne.mpr c18
                    have c18b1 : (x8_1 != 0) = true := bne_iff_ne.mpr c18
                    obtain ⟨ji19, hji19⟩ : ∃ j_ : Int, (wrap64 (x8_1 - 1)) = j_ := ⟨_, rfl⟩
                    replace H : (if 0 ≤ (ji19) then (if (ji19) < (l0.length : Int) then (if ((rd_T57 l0 x8_1).f0) < ((rd_T57 l0 (ji19)).f0) then (some false) else (if ((rd_T57 l0 x8_1).f0) = ((rd_T57 l0 (ji19)).f0) then (if ((rd_T57 l0 x8_1).f1) ≤ ((rd_T57 l0 (ji19)).f2) then (some false) else (impl_isRegion.l0 kj4 l0 l0 (l0.length : Int) (wrap64 (x8_1 + 1)))) else (impl_isRegion.l0 kj4 l0 l0 (l0.length : Int) (wrap64 (x8_1 + 1))))) else (none)) else (none)) = some r := by first | (rw [hji19] at H; exact H) | (simp only [hji19] at H ⊢; exact H)
                    have hji19w : (IntKind.i64.wrap (x8_1 - 1)) = ji19 := (i64_w _).trans hji19
                    by_cases c20 : 0 ≤ (ji19)
                    · rw [if_pos c20] at H
                      have c20b0 : decide (0 ≤ (ji19)) = true := decide_eq_true c20
                      clear c20
                      by_cases c21 : (ji19) < (l0.length : Int)
                      · rw [if_pos c21] at H
                        have c21b0 : decide ((ji19) < (l0.length : Int)) = true := decide_eq_true c21
                        clear c21
                        by_cases c22 : ((rd_T57 l0 x8_1).f0) < ((rd_T57 l0 (ji19)).f0)
                        · rw [if_pos c22] at H
                          have c22b0 : decide (((rd_T57 l0 x8_1).f0) < ((rd_T57 l0 (ji19)).f0)) = true := decide_eq_true c22
                          clear c22
                          obtain rfl := Option.some.inj H
                          have p56003 : 0 ≤ ((ji19) : Int) := of_decide_eq_true (by first | (with_reducible assumption) | assumption)
                          have q56003 : (ji19) < (l0.length : Int) := of_decide_eq_true (by first | (with_reducible assumption) | assumption)
                          obtain ⟨ad56003, e56003, hx56003_0, hx56003_1, hx56003_2⟩ := at_T57 HR0.out (ji19) p56003 q56003
                          obtain rfl : ad56001 = ad56003 := (by injection e56003)
                          replace hx56003_0 := (HB.out.cell (World.block_lt_of_cell? w _ hx56003_0)).trans hx56003_0
                          replace hx56003_1 := (HB.out.cell (World.block_lt_of_cell? w _ hx56003_1)).trans hx56003_1
                          replace hx56003_2 := (HB.out.cell (World.block_lt_of_cell? w _ hx56003_2)).trans hx56003_2
                          replace p56003 := eq_true p56003
                          replace q56003 := eq_true q56003
                          go_wp2_with (first | ((with_reducible refine gate_dst (N := 5) rfl ?_); refine box_event ?hg (N := 5) ?hd (cs := #[.int .i64 0, .int .i64 0, .int .i64 0]) (t := 57) ?hr ?_; (case hd => rfl); (case hg => rfl); (case hr => first | (go_simp; done) | (go_simp; rfl)); intro gb56004 hg w23 hbox hb; have n0_ := Aside0.mk (blk_below (g := gb56002) (o := .cells #[.int .i64 ((rd_T57 l0 x8_1).f0), .int .i64 ((rd_T57 l0 x8_1).f1), .int .i64 ((rd_T57 l0 x8_1).f2)] 57 (0, 0)) (by (with_reducible repeat (first | refine blk_drewN ?_ _ | refine blk_drew ?_ | refine blk_alloc ?_ _)); exact BK56002.out) hb); have n1_ := Aside0.mk (below_step (by repeat (first | (with_reducible first | exact HB.out | apply below_alloc | apply pw_below_drewN | apply below_drew1 | refine below_set ?_ GE56002.out) | exact HB.out)) hb); have n2_ := Aside0.mk (hbox); have n3_ := Aside0.mk ((by rw [hg]; exact (below_size (by repeat (first | (with_reducible first | exact HB.out | apply below_alloc | apply pw_below_drewN | apply below_drew1 | refine below_set ?_ GE56002.out) | exact HB.out))) : w.heap.size ≤ gb56004)); have n4_ := Aside0.mk ((by rw [hg]; exact (below_size (by repeat (first | (with_reducible first | exact HB.out | apply below_alloc | apply pw_below_drewN | apply below_drew1 | refine below_set ?_ GE56002.out) | exact HB.out))) : w.heap.size ≤ gb56004)); have n5_ := Aside0.mk ((by rw [hg]; exact Nat.ne_of_lt (blk_lt (g := gb56002) (o := .cells #[.int .i64 ((rd_T57 l0 x8_1).f0), .int .i64 ((rd_T57 l0 x8_1).f1), .int .i64 ((rd_T57 l0 x8_1).f2)] 57 (0, 0)) (by (with_reducible repeat (first | refine blk_drewN ?_ _ | refine blk_drew ?_ | refine blk_alloc ?_ _)); exact BK56002.out)) : gb56002 ≠ gb56004)); have n6_ := Aside0.mk ((by rw [hg]; exact Nat.ne_of_gt (blk_lt (g := gb56002) (o := .cells #[.int .i64 ((rd_T57 l0 x8_1).f0), .int .i64 ((rd_T57 l0 x8_1).f1), .int .i64 ((rd_T57 l0 x8_1).f2)] 57 (0, 0)) (by (with_reducible repeat (first | refine blk_drewN ?_ _ | refine blk_drew ?_ | refine blk_alloc ?_ _)); exact BK56002.out)) : gb56004 ≠ gb56002)); clear BK56002; clear HB; have BK56002 := n0_; have HB := n1_; have BK56004 := n2_; have GW56004 := n3_; have GE56004 := n4_; have NB56002_56004 := n5_; have NB56004_56002 := n6_; clear n0_ n1_ n2_ n3_ n4_ n5_ n6_; clear hb hbox hg; have hnb24 := NB56004_56002.out; have hnc24 := NB56002_56004.out; have hcz25_0 : w23.cell? ⟨gb56004, 0, none⟩ = some (.int .i64 0) := (blk_cell BK56004.out 0).trans rfl; have hcz25_1 : w23.cell? ⟨gb56004, 1, none⟩ = some (.int .i64 0) := (blk_cell BK56004.out 1).trans rfl; have hcz25_2 : w23.cell? ⟨gb56004, 2, none⟩ = some (.int .i64 0) := (blk_cell BK56004.out 2).trans rfl; have hfz25_0 := blk_frozen BK56004.out 0; have hfz25_1 := blk_frozen BK56004.out 1; have hfz25_2 := blk_frozen BK56004.out 2; have hcz26_0 : w23.cell? ⟨gb56002, 0, none⟩ = some (.int .i64 ((rd_T57 l0 x8_1).f0)) := (blk_cell BK56002.out 0).trans rfl; have hcz26_1 : w23.cell? ⟨gb56002, 1, none⟩ = some (.int .i64 ((rd_T57 l0 x8_1).f1)) := (blk_cell BK56002.out 1).trans rfl; have hcz26_2 : w23.cell? ⟨gb56002, 2, none⟩ = some (.int .i64 ((rd_T57 l0 x8_1).f2)) := (blk_cell BK56002.out 2).trans rfl; have hfz26_0 := blk_frozen BK56002.out 0; have hfz26_1 := blk_frozen BK56002.out 1; have hfz26_2 := blk_frozen BK56002.out 2))
                          go_ret
                          exact ⟨by first | rfl | (simp [errW_none, errW_some] <;> rfl) | (simp only [← hji19]; first | rfl | (simp [errW_none, errW_some] <;> rfl)) | (simp [*, errW_none, errW_some] <;> rfl), by repeat (first | (with_reducible first | exact HB.out | apply below_alloc | apply pw_below_drewN | apply below_drew1 | refine below_set ?_ GE56002.out | refine below_set ?_ GE56004.out) | exact HB.out)⟩
                        · rw [if_neg c22] at H
                          have c22b0 : decide (((rd_T57 l0 x8_1).f0) < ((rd_T57 l0 (ji19)).f0)) = false := decide_eq_false c22
                          clear c22
                          by_cases c27 : ((rd_T57 l0 x8_1).f0) = ((rd_T57 l0 (ji19)).f0)
                          · rw [if_pos c27] at H
                            have c27b0 : (((rd_T57 l0 x8_1).f0) == ((rd_T57 l0 (ji19)).f0)) = true := beq_iff_eq.mpr c27
                            have c27b1 : (((rd_T57 l0 x8_1).f0) != ((rd_T57 l0 (ji19)).f0)) = false := bne_eq_false_iff_eq.mpr c27
                            clear c27
                            by_cases c28 : ((rd_T57 l0 x8_1).f1) ≤ ((rd_T57 l0 (ji19)).f2)
                            · rw [if_pos c28] at H
                              have c28b0 : decide (((rd_T57 l0 x8_1).f1) ≤ ((rd_T57 l0 (ji19)).f2)) = true := decide_eq_true c28
                              clear c28
                              obtain rfl := Option.some.inj H
                              have p56003 : 0 ≤ ((ji19) : Int) := of_decide_eq_true (by first | (with_reducible assumption) | assumption)
                              have q56003 : (ji19) < (l0.length : Int) := of_decide_eq_true (by first | (with_reducible assumption) | assumption)
                              obtain ⟨ad56003, e56003, hx56003_0, hx56003_1, hx56003_2⟩ := at_T57 HR0.out (ji19) p56003 q56003
                              obtain rfl : ad56001 = ad56003 := (by injection e56003)
                              replace hx56003_0 := (HB.out.cell (World.block_lt_of_cell? w _ hx56003_0)).trans hx56003_0
                              replace hx56003_1 := (HB.out.cell (World.block_lt_of_cell? w _ hx56003_1)).trans hx56003_1
                              replace hx56003_2 := (HB.out.cell (World.block_lt_of_cell? w _ hx56003_2)).trans hx56003_2
                              replace p56003 := eq_true p56003
                              replace q56003 := eq_true q56003
                              go_wp2_with (first | ((with_reducible refine gate_dst (N := 5) rfl ?_); refine box_event ?hg (N := 5) ?hd (cs := #[.int .i64 0, .int .i64 0, .int .i64 0]) (t := 57) ?hr ?_; (case hd => rfl); (case hg => rfl); (case hr => first | (go_simp; done) | (go_simp; rfl)); intro gb56004 hg w29 hbox hb; have n0_ := Aside0.mk (blk_below (g := gb56002) (o := .cells #[.int .i64 ((rd_T57 l0 x8_1).f0), .int .i64 ((rd_T57 l0 x8_1).f1), .int .i64 ((rd_T57 l0 x8_1).f2)] 57 (0, 0)) (by (with_reducible repeat (first | refine blk_drewN ?_ _ | refine blk_drew ?_ | refine blk_alloc ?_ _)); exact BK56002.out) hb); have n1_ := Aside0.mk (below_step (by repeat (first | (with_reducible first | exact HB.out | apply below_alloc | apply pw_below_drewN | apply below_drew1 | refine below_set ?_ GE56002.out) | exact HB.out)) hb); have n2_ := Aside0.mk (hbox); have n3_ := Aside0.mk ((by rw [hg]; exact (below_size (by repeat (first | (with_reducible first | exact HB.out | apply below_alloc | apply pw_below_drewN | apply below_drew1 | refine below_set ?_ GE56002.out) | exact HB.out))) : w.heap.size ≤ gb56004)); have n4_ := Aside0.mk ((by rw [hg]; exact (below_size (by repeat (first | (with_reducible first | exact HB.out | apply below_alloc | apply pw_below_drewN | apply below_drew1 | refine below_set ?_ GE56002.out) | exact HB.out))) : w.heap.size ≤ gb56004)); have n5_ := Aside0.mk ((by rw [hg]; exact Nat.ne_of_lt (blk_lt (g := gb56002) (o := .cells #[.int .i64 ((rd_T57 l0 x8_1).f0), .int .i64 ((rd_T57 l0 x8_1).f1), .int .i64 ((rd_T57 l0 x8_1).f2)] 57 (0, 0)) (by (with_reducible repeat (first | refine blk_drewN ?_ _ | refine blk_drew ?_ | refine blk_alloc ?_ _)); exact BK56002.out)) : gb56002 ≠ gb56004)); have n6_ := Aside0.mk ((by rw [hg]; exact Nat.ne_of_gt (blk_lt (g := gb56002) (o := .cells #[.int .i64 ((rd_T57 l0 x8_1).f0), .int .i64 ((rd_T57 l0 x8_1).f1), .int .i64 ((rd_T57 l0 x8_1).f2)] 57 (0, 0)) (by (with_reducible repeat (first | refine blk_drewN ?_ _ | refine blk_drew ?_ | refine blk_alloc ?_ _)); exact BK56002.out)) : gb56004 ≠ gb56002)); clear BK56002; clear HB; have BK56002 := n0_; have HB := n1_; have BK56004 := n2_; have GW56004 := n3_; have GE56004 := n4_; have NB56002_56004 := n5_; have NB56004_56002 := n6_; clear n0_ n1_ n2_ n3_ n4_ n5_ n6_; clear hb hbox hg; have hnb30 := NB56004_56002.out; have hnc30 := NB56002_56004.out; have hcz31_0 : w29.cell? ⟨gb56004, 0, none⟩ = some (.int .i64 0) := (blk_cell BK56004.out 0).trans rfl; have hcz31_1 : w29.cell? ⟨gb56004, 1, none⟩ = some (.int .i64 0) := (blk_cell BK56004.out 1).trans rfl; have hcz31_2 : w29.cell? ⟨gb56004, 2, none⟩ = some (.int .i64 0) := (blk_cell BK56004.out 2).trans rfl; have hfz31_0 := blk_frozen BK56004.out 0; have hfz31_1 := blk_frozen BK56004.out 1; have hfz31_2 := blk_frozen BK56004.out 2; have hcz32_0 : w29.cell? ⟨gb56002, 0, none⟩ = some (.int .i64 ((rd_T57 l0 x8_1).f0)) := (blk_cell BK56002.out 0).trans rfl; have hcz32_1 : w29.cell? ⟨gb56002, 1, none⟩ = some (.int .i64 ((rd_T57 l0 x8_1).f1)) := (blk_cell BK56002.out 1).trans rfl; have hcz32_2 : w29.cell? ⟨gb56002, 2, none⟩ = some (.int .i64 ((rd_T57 l0 x8_1).f2)) := (blk_cell BK56002.out 2).trans rfl; have hfz32_0 := blk_frozen BK56002.out 0; have hfz32_1 := blk_frozen BK56002.out 1; have hfz32_2 := blk_frozen BK56002.out 2))
                              go_ret
                              exact ⟨by first | rfl | (simp [errW_none, errW_some] <;> rfl) | (simp only [← hji19]; first | rfl | (simp [errW_none, errW_some] <;> rfl)) | (simp [*, errW_none, errW_some] <;> rfl), by repeat (first | (with_reducible first | exact HB.out | apply below_alloc | apply pw_below_drewN | apply below_drew1 | refine below_set ?_ GE56002.out | refine below_set ?_ GE56004.out) | exact HB.out)⟩
                            · rw [if_neg c28] at H
                              have c28b0 : decide (((rd_T57 l0 x8_1).f1) ≤ ((rd_T57 l0 (ji19)).f2)) = false := decide_eq_false c28
                              clear c28
                              have H' := Aside0.mk H
                              clear H
                              have p56003 : 0 ≤ ((ji19) : Int) := of_decide_eq_true (by first | (with_reducible assumption) | assumption)
                              have q56003 : (ji19) < (l0.length : Int) := of_decide_eq_true (by first | (with_reducible assumption) | assumption)
                              obtain ⟨ad56003, e56003, hx56003_0, hx56003_1, hx56003_2⟩ := at_T57 HR0.out (ji19) p56003 q56003
                              obtain rfl : ad56001 = ad56003 := (by injection e56003)
                              replace hx56003_0 := (HB.out.cell (World.block_lt_of_cell? w _ hx56003_0)).trans hx56003_0
                              replace hx56003_1 := (HB.out.cell (World.block_lt_of_cell? w _ hx56003_1)).trans hx56003_1
                              replace hx56003_2 := (HB.out.cell (World.block_lt_of_cell? w _ hx56003_2)).trans hx56003_2
                              replace p56003 := eq_true p56003
                              replace q56003 := eq_true q56003
                              go_wp2_with (first | ((with_reducible refine gate_dst (N := 5) rfl ?_); refine box_event ?hg (N := 5) ?hd (cs := #[.int .i64 0, .int .i64 0, .int .i64 0]) (t := 57) ?hr ?_; (case hd => rfl); (case hg => rfl); (case hr => first | (go_simp; done) | (go_simp; rfl)); intro gb56004 hg w33 hbox hb; have n0_ := Aside0.mk (blk_below (g := gb56002) (o := .cells #[.int .i64 ((rd_T57 l0 x8_1).f0), .int .i64 ((rd_T57 l0 x8_1).f1), .int .i64 ((rd_T57 l0 x8_1).f2)] 57 (0, 0)) (by (with_reducible repeat (first | refine blk_drewN ?_ _ | refine blk_drew ?_ | refine blk_alloc ?_ _)); exact BK56002.out) hb); have n1_ := Aside0.mk (below_step (by repeat (first | (with_reducible first | exact HB.out | apply below_alloc | apply pw_below_drewN | apply below_drew1 | refine below_set ?_ GE56002.out) | exact HB.out)) hb); have n2_ := Aside0.mk (hbox); have n3_ := Aside0.mk ((by rw [hg]; exact (below_size (by repeat (first | (with_reducible first | exact HB.out | apply below_alloc | apply pw_below_drewN | apply below_drew1 | refine below_set ?_ GE56002.out) | exact HB.out))) : w.heap.size ≤ gb56004)); have n4_ := Aside0.mk ((by rw [hg]; exact (below_size (by repeat (first | (with_reducible first | exact HB.out | apply below_alloc | apply pw_below_drewN | apply below_drew1 | refine below_set ?_ GE56002.out) | exact HB.out))) : w.heap.size ≤ gb56004)); have n5_ := Aside0.mk ((by rw [hg]; exact Nat.ne_of_lt (blk_lt (g := gb56002) (o := .cells #[.int .i64 ((rd_T57 l0 x8_1).f0), .int .i64 ((rd_T57 l0 x8_1).f1), .int .i64 ((rd_T57 l0 x8_1).f2)] 57 (0, 0)) (by (with_reducible repeat (first | refine blk_drewN ?_ _ | refine blk_drew ?_ | refine blk_alloc ?_ _)); exact BK56002.out)) : gb56002 ≠ gb56004)); have n6_ := Aside0.mk ((by rw [hg]; exact Nat.ne_of_gt (blk_lt (g := gb56002) (o := .cells #[.int .i64 ((rd_T57 l0 x8_1).f0), .int .i64 ((rd_T57 l0 x8_1).f1), .int .i64 ((rd_T57 l0 x8_1).f2)] 57 (0, 0)) (by (with_reducible repeat (first | refine blk_drewN ?_ _ | refine blk_drew ?_ | refine blk_alloc ?_ _)); exact BK56002.out)) : gb56004 ≠ gb56002)); clear BK56002; clear HB; have BK56002 := n0_; have HB := n1_; have BK56004 := n2_; have GW56004 := n3_; have GE56004 := n4_; have NB56002_56004 := n5_; have NB56004_56002 := n6_; clear n0_ n1_ n2_ n3_ n4_ n5_ n6_; clear hb hbox hg; have hnb34 := NB56004_56002.out; have hnc34 := NB56002_56004.out; have hcz35_0 : w33.cell? ⟨gb56004, 0, none⟩ = some (.int .i64 0) := (blk_cell BK56004.out 0).trans rfl; have hcz35_1 : w33.cell? ⟨gb56004, 1, none⟩ = some (.int .i64 0) := (blk_cell BK56004.out 1).trans rfl; have hcz35_2 : w33.cell? ⟨gb56004, 2, none⟩ = some (.int .i64 0) := (blk_cell BK56004.out 2).trans rfl; have hfz35_0 := blk_frozen BK56004.out 0; have hfz35_1 := blk_frozen BK56004.out 1; have hfz35_2 := blk_frozen BK56004.out 2; have hcz36_0 : w33.cell? ⟨gb56002, 0, none⟩ = some (.int .i64 ((rd_T57 l0 x8_1).f0)) := (blk_cell BK56002.out 0).trans rfl; have hcz36_1 : w33.cell? ⟨gb56002, 1, none⟩ = some (.int .i64 ((rd_T57 l0 x8_1).f1)) := (blk_cell BK56002.out 1).trans rfl; have hcz36_2 : w33.cell? ⟨gb56002, 2, none⟩ = some (.int .i64 ((rd_T57 l0 x8_1).f2)) := (blk_cell BK56002.out 2).trans rfl; have hfz36_0 := blk_frozen BK56002.out 0; have hfz36_1 := blk_frozen BK56002.out 1; have hfz36_2 := blk_frozen BK56002.out 2))
                              go_roundg kj4
                              case measure => have := HK1.out; have := HJ4.out; omega
                              case rel => exact ⟨(wrap64 (x8_1 + 1)), (by first | rfl | (simp; done) | (simp [*]; done)), H', ⟨by have := HK1.out; have := HJ4.out; omega⟩, ⟨by repeat (first | (with_reducible first | exact HB.out | apply below_alloc | apply pw_below_drewN | apply below_drew1 | refine below_set ?_ GE56002.out | refine below_set ?_ GE56004.out) | exact HB.out)⟩⟩
                          · rw [if_neg c27] at H
                            have c27b0 : (((rd_T57 l0 x8_1).f0) == ((rd_T57 l0 (ji19)).f0)) = false := beq_eq_false_iff_ne.mpr c27
                            have c27b1 : (((rd_T57 l0 x8_1).f0) != ((rd_T57 l0 (ji19)).f0)) = true := bne_iff_ne.mpr c27
                            have H' := Aside0.mk H
                            clear H
                            have p56003 : 0 ≤ ((ji19) : Int) := of_decide_eq_true (by first | (with_reducible assumption) | assumption)
                            have q56003 : (ji19) < (l0.length : Int) := of_decide_eq_true (by first | (with_reducible assumption) | assumption)
                            obtain ⟨ad56003, e56003, hx56003_0, hx56003_1, hx56003_2⟩ := at_T57 HR0.out (ji19) p56003 q56003
                            obtain rfl : ad56001 = ad56003 := (by injection e56003)
                            replace hx56003_0 := (HB.out.cell (World.block_lt_of_cell? w _ hx56003_0)).trans hx56003_0
                            replace hx56003_1 := (HB.out.cell (World.block_lt_of_cell? w _ hx56003_1)).trans hx56003_1
                            replace hx56003_2 := (HB.out.cell (World.block_lt_of_cell? w _ hx56003_2)).trans hx56003_2
                            replace p56003 := eq_true p56003
                            replace q56003 := eq_true q56003
                            go_wp2_with (first | ((with_reducible refine gate_dst (N := 5) rfl ?_); refine box_event ?hg (N := 5) ?hd (cs := #[.int .i64 0, .int .i64 0, .int .i64 0]) (t := 57) ?hr ?_; (case hd => rfl); (case hg => rfl); (case hr => first | (go_simp; done) | (go_simp; rfl)); intro gb56004 hg w37 hbox hb; have n0_ := Aside0.mk (blk_below (g := gb56002) (o := .cells #[.int .i64 ((rd_T57 l0 x8_1).f0), .int .i64 ((rd_T57 l0 x8_1).f1), .int .i64 ((rd_T57 l0 x8_1).f2)] 57 (0, 0)) (by (with_reducible repeat (first | refine blk_drewN ?_ _ | refine blk_drew ?_ | refine blk_alloc ?_ _)); exact BK56002.out) hb); have n1_ := Aside0.mk (below_step (by repeat (first | (with_reducible first | exact HB.out | apply below_alloc | apply pw_below_drewN | apply below_drew1 | refine below_set ?_ GE56002.out) | exact HB.out)) hb); have n2_ := Aside0.mk (hbox); have n3_ := Aside0.mk ((by rw [hg]; exact (below_size (by repeat (first | (with_reducible first | exact HB.out | apply below_alloc | apply pw_below_drewN | apply below_drew1 | refine below_set ?_ GE56002.out) | exact HB.out))) : w.heap.size ≤ gb56004)); have n4_ := Aside0.mk ((by rw [hg]; exact (below_size (by repeat (first | (with_reducible first | exact HB.out | apply below_alloc | apply pw_below_drewN | apply below_drew1 | refine below_set ?_ GE56002.out) | exact HB.out))) : w.heap.size ≤ gb56004)); have n5_ := Aside0.mk ((by rw [hg]; exact Nat.ne_of_lt (blk_lt (g := gb56002) (o := .cells #[.int .i64 ((rd_T57 l0 x8_1).f0), .int .i64 ((rd_T57 l0 x8_1).f1), .int .i64 ((rd_T57 l0 x8_1).f2)] 57 (0, 0)) (by (with_reducible repeat (first | refine blk_drewN ?_ _ | refine blk_drew ?_ | refine blk_alloc ?_ _)); exact BK56002.out)) : gb56002 ≠ gb56004)); have n6_ := Aside0.mk ((by rw [hg]; exact Nat.ne_of_gt (blk_lt (g := gb56002) (o := .cells #[.int .i64 ((rd_T57 l0 x8_1).f0), .int .i64 ((rd_T57 l0 x8_1).f1), .int .i64 ((rd_T57 l0 x8_1).f2)] 57 (0, 0)) (by (with_reducible repeat (first | refine blk_drewN ?_ _ | refine blk_drew ?_ | refine blk_alloc ?_ _)); exact BK56002.out)) : gb56004 ≠ gb56002)); clear BK56002; clear HB; have BK56002 := n0_; have HB := n1_; have BK56004 := n2_; have GW56004 := n3_; have GE56004 := n4_; have NB56002_56004 := n5_; have NB56004_56002 := n6_; clear n0_ n1_ n2_ n3_ n4_ n5_ n6_; clear hb hbox hg; have hnb38 := NB56004_56002.out; have hnc38 := NB56002_56004.out; have hcz39_0 : w37.cell? ⟨gb56004, 0, none⟩ = some (.int .i64 0) := (blk_cell BK56004.out 0).trans rfl; have hcz39_1 : w37.cell? ⟨gb56004, 1, none⟩ = some (.int .i64 0) := (blk_cell BK56004.out 1).trans rfl; have hcz39_2 : w37.cell? ⟨gb56004, 2, none⟩ = some (.int .i64 0) := (blk_cell BK56004.out 2).trans rfl; have hfz39_0 := blk_frozen BK56004.out 0; have hfz39_1 := blk_frozen BK56004.out 1; have hfz39_2 := blk_frozen BK56004.out 2; have hcz40_0 : w37.cell? ⟨gb56002, 0, none⟩ = some (.int .i64 ((rd_T57 l0 x8_1).f0)) := (blk_cell BK56002.out 0).trans rfl; have hcz40_1 : w37.cell? ⟨gb56002, 1, none⟩ = some (.int .i64 ((rd_T57 l0 x8_1).f1)) := (blk_cell BK56002.out 1).trans rfl; have hcz40_2 : w37.cell? ⟨gb56002, 2, none⟩ = some (.int .i64 ((rd_T57 l0 x8_1).f2)) := (blk_cell BK56002.out 2).trans rfl; have hfz40_0 := blk_frozen BK56002.out 0; have hfz40_1 := blk_frozen BK56002.out 1; have hfz40_2 := blk_frozen BK56002.out 2))
                            go_roundg kj4
                            case measure => have := HK1.out; have := HJ4.out; omega
                            case rel => exact ⟨(wrap64 (x8_1 + 1)), (by first | rfl | (simp; done) | (simp [*]; done)), H', ⟨by have := HK1.out; have := HJ4.out; omega⟩, ⟨by repeat (first | (with_reducible first | exact HB.out | apply below_alloc | apply pw_below_drewN | apply below_drew1 | refine below_set ?_ GE56002.out | refine below_set ?_ GE56004.out) | exact HB.out)⟩⟩
                      · rw [if_neg c21] at H
                        exact absurd H (by simp)
                    · rw [if_neg c20] at H
                      exact absurd H (by simp)
          · rw [if_neg c4] at H
            exact absurd H (by simp)
        · rw [if_neg c3] at H
          exact absurd H (by simp)
      · rw [if_neg c2] at H
        have c2b0 : decide (x8_1 < (l0.length : Int)) = false := decide_eq_false c2
        clear c2
        obtain rfl := Option.some.inj H
        go_wp2
        go_ret
        exact ⟨by first | rfl | (simp [errW_none, errW_some] <;> rfl) | (simp [*, errW_none, errW_some] <;> rfl), by repeat (first | (with_reducible first | exact HB.out | apply below_alloc | apply pw_below_drewN | apply below_drew1) | exact HB.out)⟩

end Go.Proofs.Ytfgeickfheogoaa.Q

/- (impl.grid).has: whether a pixel, which may be anywhere, is in a grid. -/
namespace Go.Proofs.Ytfgeickfheogoaa.Q
open Go.RowKit Go.Proofs.YtfgeickfheogoaaW.PrintWords Go.Proofs.YtfgeickfheogoaaW.PrintLast Go.Proofs.YtfgeickfheogoaaW.PrintMore
attribute [local go_sem] max2_int min2_int max_two min_two max_three min_three max_four min_four
set_option linter.unusedVariables false
set_option linter.unusedSimpArgs false

def hasP (g : Nat → Bool) (x y : Int) : Bool := decide (x ≥ 0) && decide (x < 16) && decide (y ≥ 0) && decide (y < 16) && g (y.toNat * 16 + x.toNat)

set_option maxHeartbeats 2000000 in
set_option maxRecDepth 100000 in
theorem has_calls (g : Nat → Bool) (x y : Int) (w : World) :
    Calls Try.prog 60 #[.agg (gc g), .int .i64 x, .int .i64 y] w fun e w' => e = .returned (.bool (hasP g x y)) ∧ Below w.heap.size w w' := by
  have hB := Aside0.mk (below_alloc (Below.refl w.heap.size w) (.cells (gc g) 66))
  have hgs := gc_size g
  by_cases h1 : x ≥ 0
  · have d1 : decide (0 ≤ x) = true := by simpa using h1
    by_cases h2 : x < 16
    · have d2 : decide (x < 16) = true := by simpa using h2
      by_cases h3 : y ≥ 0
      · have d3 : decide (0 ≤ y) = true := by simpa using h3
        by_cases h4 : y < 16
        · have d4 : decide (y < 16) = true := by simpa using h4
          obtain ⟨x, rfl⟩ := Int.eq_ofNat_of_zero_le h1
          obtain ⟨y, rfl⟩ := Int.eq_ofNat_of_zero_le h3
          have hE := Aside0.mk (show hasP g (x : Int) (y : Int) = g (y * 16 + x) by simp [hasP]; omega)
          have hc := (GridAt.new w g).cell (y * 16 + x) (by omega)
          go_enter Try.func60, Try.ntmps60
          go_wp2
          go_ret
          exact ⟨by rw [hE.out]; rfl, hB.out⟩
        · have d4 : decide (y < 16) = false := by simpa using h4
          have hE := Aside0.mk (show hasP g x y = false by simp [hasP, h4])
          go_enter Try.func60, Try.ntmps60
          go_wp2
          go_ret
          exact ⟨by rw [hE.out]; rfl, hB.out⟩
      · have d3 : decide (0 ≤ y) = false := by simpa using h3
        have hE := Aside0.mk (show hasP g x y = false by simp [hasP, h3])
        go_enter Try.func60, Try.ntmps60
        go_wp2
        go_ret
        exact ⟨by rw [hE.out]; rfl, hB.out⟩
    · have d2 : decide (x < 16) = false := by simpa using h2
      have hE := Aside0.mk (show hasP g x y = false by simp [hasP, h2])
      go_enter Try.func60, Try.ntmps60
      go_wp2
      go_ret
      exact ⟨by rw [hE.out]; rfl, hB.out⟩
  · have d1 : decide (0 ≤ x) = false := by simpa using h1
    have hE := Aside0.mk (show hasP g x y = false by simp [hasP, h1])
    go_enter Try.func60, Try.ntmps60
    go_wp2
    go_ret
    exact ⟨by rw [hE.out]; rfl, hB.out⟩
end Go.Proofs.Ytfgeickfheogoaa.Q

/- Plain words: numbers that do not wrap, elements of lists, rounds that are enough. -/
namespace Go.Proofs.Ytfgeickfheogoaa.Pure
open Go.RowKit Go.Proofs.Ytfgeickfheogoaa.Q Go.Proofs.YtfgeickfheogoaaW.PrintWords Go.Proofs.YtfgeickfheogoaaW.PrintLast Go.Proofs.YtfgeickfheogoaaW.PrintMore
set_option linter.unusedVariables false
set_option linter.unusedSimpArgs false

theorem w64 {x : Int} (h1 : -9223372036854775808 ≤ x) (h2 : x ≤ 9223372036854775807) : wrap64 x = x := by unfold wrap64; omega
theorem w64n (n : Nat) (h : n < 9223372036854775807) : wrap64 ((n : Int) + 1) = ((n + 1 : Nat) : Int) := by unfold wrap64; omega
/-- From K rounds on. -/
theorem ev_of {α : Type} {g : Nat → Option α} {r : α} (K : Nat) (h : ∀ k, K < k → g k = some r) : Ev g r := ⟨K + 1, fun k hk => h k (by omega)⟩
theorem ev_const {α : Type} {o : Option α} {r : α} (h : o = some r) : Ev (fun _ => o) r := ⟨0, fun _ _ => h⟩
theorem ev_bind {α β : Type} {g : Nat → Option α} {f : Nat → α → Option β} {a : α} {r : β} (h : Ev g a) (k : Ev (fun n => f n a) r) : Ev (fun n => (g n).bind (f n)) r := Ev.bind h k
theorem ev_now {α β : Type} {o : Option α} {f : Nat → α → Option β} {a : α} {r : β} (h : o = some a) (k : Ev (fun n => f n a) r) : Ev (fun n => o.bind (f n)) r := Ev.bind (ev_const h) k
theorem ev_pos {α : Type} {c : Prop} [Decidable c] {f g : Nat → Option α} {r : α} (h : c) (k : Ev f r) : Ev (fun n => if c then f n else g n) r := by
  simpa [h] using k
theorem ev_neg {α : Type} {c : Prop} [Decidable c] {f g : Nat → Option α} {r : α} (h : ¬ c) (k : Ev g r) : Ev (fun n => if c then f n else g n) r := by
  simpa [h] using k
/-- A loop that counts up to n: what it answers from i on. -/
theorem loop_up {σ ρ : Type} (K n : Nat) (L : Nat → Nat → σ → Option ρ) (Inv : Nat → σ → Prop) (F : Nat → σ → ρ)
    (step : ∀ i s k, i < n → Inv i s → K ≤ k → (L (k + 1) i s = some (F i s)) ∨ ∃ s', L (k + 1) i s = L k (i + 1) s' ∧ Inv (i + 1) s' ∧ F (i + 1) s' = F i s)
    (last : ∀ s k, Inv n s → K ≤ k → L (k + 1) n s = some (F n s)) :
    ∀ d i s k, i + d = n → Inv i s → K + d < k → L k i s = some (F i s) := by
  intro d
  induction d with
  | zero =>
    intro i s k hi hinv hk
    obtain ⟨k, rfl⟩ : ∃ m, k = m + 1 := ⟨k - 1, by omega⟩
    have : i = n := by omega
    subst this
    exact last s k hinv (by omega)
  | succ d ih =>
    intro i s k hi hinv hk
    obtain ⟨k, rfl⟩ : ∃ m, k = m + 1 := ⟨k - 1, by omega⟩
    rcases step i s k (by omega) hinv (by omega) with h | ⟨s', h, hi', hF⟩
    · exact h
    · rw [h, ih (i + 1) s' k (by omega) hi' (by omega), hF]
/-- The same, from some number of rounds on: for loops in loops. -/
theorem ev_up {σ ρ : Type} (n : Nat) (L : Nat → Nat → σ → Option ρ) (Inv : Nat → σ → Prop) (F : Nat → σ → ρ)
    (step : ∀ i s, i < n → Inv i s → Ev (fun k => L k i s) (F i s) ∨ ∃ s', (∀ k, L (k + 1) i s = L k (i + 1) s') ∧ Inv (i + 1) s' ∧ F (i + 1) s' = F i s)
    (last : ∀ s, Inv n s → Ev (fun k => L k n s) (F n s)) :
    ∀ d i s, i + d = n → Inv i s → Ev (fun k => L k i s) (F i s) := by
  intro d
  induction d with
  | zero =>
    intro i s hi hinv
    have : i = n := by omega
    subst this
    exact last s hinv
  | succ d ih =>
    intro i s hi hinv
    rcases step i s (by omega) hinv with h | ⟨s', h, hi', hF⟩
    · exact h
    · rw [← hF]
      exact Ev.step h (ih (i + 1) s' (by omega) hi')
theorem ev_up2 {σ ρ : Type} (n : Nat) (L : Nat → Nat → σ → Option ρ) (Inv : Nat → σ → Prop) (F : Nat → σ → ρ)
    (step : ∀ i s, i < n → Inv i s → Ev (fun k => L k i s) (F i s) ∨ ∃ s', (∀ r, Ev (fun k => L k (i + 1) s') r → Ev (fun k => L k i s) r) ∧ Inv (i + 1) s' ∧ F (i + 1) s' = F i s)
    (last : ∀ s, Inv n s → Ev (fun k => L k n s) (F n s)) :
    ∀ d i s, i + d = n → Inv i s → Ev (fun k => L k i s) (F i s) := by
  intro d
  induction d with
  | zero =>
    intro i s hi hinv
    have : i = n := by omega
    subst this
    exact last s hinv
  | succ d ih =>
    intro i s hi hinv
    rcases step i s (by omega) hinv with h | ⟨s', h, hi', hF⟩
    · exact h
    · rw [← hF]
      exact h _ (ih (i + 1) s' (by omega) hi')
theorem ev_val {α : Type} {g : Nat → Option α} {r r' : α} (h : Ev g r) (e : r = r') : Ev g r' := e ▸ h
theorem take_set {α : Type} (s : List α) (i : Nat) (c : α) (h : i < s.length) : (s.set i c).take (i + 1) = s.take i ++ [c] := by
  rw [List.take_succ_eq_append_getElem (by simpa using h), List.take_set_of_le (Nat.le_refl i)]
  simp
end Go.Proofs.Ytfgeickfheogoaa.Pure

/- Runs: what the program and the reference take for a region. -/
namespace Go.Proofs.Ytfgeickfheogoaa.Pure
open Go.RowKit Go.Proofs.Ytfgeickfheogoaa.Q Go.Proofs.YtfgeickfheogoaaW.PrintWords Go.Proofs.YtfgeickfheogoaaW.PrintLast Go.Proofs.YtfgeickfheogoaaW.PrintMore
set_option linter.unusedVariables false
set_option linter.unusedSimpArgs false

abbrev Run := S57
theorem rdRun (l : List Run) (i : Nat) (h : i < l.length) : rd_T57 l (i : Int) = l[i] := by simp [rd_T57, h]
def runOK (r : Run) : Bool := decide (0 ≤ r.f0) && decide (r.f0 < 16) && decide (0 ≤ r.f1) && decide (r.f1 < r.f2) && decide (r.f2 ≤ 16)
theorem runOK_iff (r : Run) : runOK r = true ↔ 0 ≤ r.f0 ∧ r.f0 < 16 ∧ 0 ≤ r.f1 ∧ r.f1 < r.f2 ∧ r.f2 ≤ 16 := by
  simp [runOK, and_assoc]
def runAfter (p r : Run) : Bool := decide (p.f0 < r.f0) || (decide (p.f0 = r.f0) && decide (p.f2 < r.f1))
theorem runAfter_iff (p r : Run) : runAfter p r = true ↔ p.f0 < r.f0 ∨ (p.f0 = r.f0 ∧ p.f2 < r.f1) := by
  simp [runAfter]
/-- Runs of a region: each in range, and behind the one before it. -/
def validFrom : Option Run → List Run → Bool
  | _, [] => true
  | none, r :: rs => runOK r && validFrom (some r) rs
  | some p, r :: rs => (runOK r && runAfter p r) && validFrom (some r) rs
def validR (l : List Run) : Bool := validFrom none l
def before (l : List Run) (i : Nat) : Option Run := if i = 0 then none else l[i - 1]?
theorem before_zero (l : List Run) : before l 0 = none := rfl
theorem before_succ (l : List Run) (i : Nat) (h : i < l.length) : before l (i + 1) = some l[i] := by simp [before, h]
theorem validFrom_at (l : List Run) (i : Nat) (h : i < l.length) : validFrom (before l i) (l.drop i) = ((runOK l[i] && (match before l i with | none => true | some p => runAfter p l[i])) && validFrom (before l (i + 1)) (l.drop (i + 1))) := by
  rw [List.drop_eq_getElem_cons h, before_succ l i h]
  cases before l i with
  | none => simp [validFrom]
  | some p => rfl
theorem inRange_eq' (n a b : Int) : spec_inRange.f n a b = some (decide (a ≤ n) && decide (n ≤ b)) := by
  unfold spec_inRange.f; by_cases h : a ≤ n <;> simp [h]
theorem sval_j1 (l : List Run) (i k : Nat) (hl : l.length ≤ 9223372036854775807) (h : i < l.length) (b : Bool) :
    spec_validRuns.j1 (k + 1) l i b l[i].f0 l[i].f1 l[i].f2 = if b = true then some false else if (match before l i with | none => true | some p => runAfter p l[i]) = true then spec_validRuns.l0 k l ((i + 1 : Nat) : Int) else some false := by
  simp only [spec_validRuns.j1]
  by_cases hb : b = true
  · rw [if_pos hb, if_pos hb]
  rw [if_neg hb, if_neg hb, w64n i (by omega)]
  cases i with
  | zero => simp [before]
  | succ i =>
    have e : ((i + 1 : Nat) : Int) - 1 = (i : Int) := by omega
    rw [if_pos (by omega), w64 (x := ((i + 1 : Nat) : Int) - 1) (by omega) (by omega), e, if_pos (by omega), if_pos (by omega), rdRun l i (by omega), before_succ l i (by omega)]
    simp only
    by_cases c1 : l[i + 1].f0 < l[i].f0
    · rw [if_pos c1, if_neg (by rw [runAfter_iff]; omega)]
    rw [if_neg c1]
    by_cases c2 : l[i + 1].f0 = l[i].f0
    · rw [if_pos c2]
      by_cases c3 : l[i + 1].f1 ≤ l[i].f2
      · rw [if_pos c3, if_neg (by rw [runAfter_iff]; omega)]
      · rw [if_neg c3, if_pos (by rw [runAfter_iff]; omega)]
    · rw [if_neg c2, if_pos (by rw [runAfter_iff]; omega)]
theorem spec_validRuns_eq (l : List Run) (hl : l.length ≤ 9223372036854775807) (k : Nat) (hk : 2 * l.length + 1 < k) : spec_validRuns.f k l = some (validR l) := by
  have key : ∀ d i k, i + d = l.length → 2 * d < k → spec_validRuns.l0 k l (i : Int) = some (validFrom (before l i) (l.drop i)) := by
    intro d
    induction d with
    | zero =>
      intro i k hi hk
      obtain ⟨k, rfl⟩ : ∃ m, k = m + 1 := ⟨k - 1, by omega⟩
      simp only [spec_validRuns.l0]
      rw [if_neg (by omega), List.drop_of_length_le (by omega)]
      cases before l i <;> rfl
    | succ d ih =>
      intro i k hi hk
      obtain ⟨k, rfl⟩ : ∃ m, k = m + 1 + 1 := ⟨k - 2, by omega⟩
      have hlt : i < l.length := by omega
      have hn := ih (i + 1) k (by omega) (by omega)
      rw [validFrom_at l i hlt]
      simp only [spec_validRuns.l0]
      rw [if_pos (by omega), if_pos (by omega), rdRun l i hlt, inRange_eq', inRange_eq', inRange_eq']
      simp only [Option.bind_some, sval_j1 l i k hl hlt, hn]
      by_cases c1 : 0 ≤ l[i].f0 ∧ l[i].f0 ≤ 15
      · rw [if_pos (by simpa using c1)]
        by_cases c2 : 0 ≤ l[i].f1 ∧ l[i].f1 ≤ 15
        · rw [if_pos (by simpa using c2), w64 (x := l[i].f1 + 1) (by omega) (by omega)]
          by_cases c3 : l[i].f1 + 1 ≤ l[i].f2 ∧ l[i].f2 ≤ 16
          · rw [if_neg (by simp; omega)]
            have : runOK l[i] = true := by rw [runOK_iff]; omega
            rw [this, Bool.true_and]
            cases (match before l i with | none => true | some p => runAfter p l[i]) <;> rfl
          · rw [if_pos (by simp; omega)]
            have : runOK l[i] = false := by rw [← Bool.not_eq_true, runOK_iff]; omega
            rw [this]; rfl
        · rw [if_neg (by simpa using c2), if_pos trivial]
          have : runOK l[i] = false := by rw [← Bool.not_eq_true, runOK_iff]; omega
          rw [this]; rfl
      · rw [if_neg (by simpa using c1), if_pos trivial]
        have : runOK l[i] = false := by rw [← Bool.not_eq_true, runOK_iff]; omega
        rw [this]; rfl
  unfold spec_validRuns.f
  have := key l.length 0 k (by omega) (by omega)
  simpa [before_zero, validR] using this
theorem ival_j1 (l : List Run) (i k : Nat) (hl : l.length ≤ 9223372036854775807) (h : i < l.length) (b : Bool) :
    impl_isRegion.j1 (k + 1) l i l (l.length : Int) i b l[i].f0 l[i].f1 l[i].f2 = if b = true then some false else if (match before l i with | none => true | some p => runAfter p l[i]) = true then impl_isRegion.l0 k l l (l.length : Int) ((i + 1 : Nat) : Int) else some false := by
  simp only [impl_isRegion.j1]
  by_cases hb : b = true
  · rw [if_pos hb, if_pos hb]
  rw [if_neg hb, if_neg hb, w64n i (by omega)]
  cases i with
  | zero => simp [before]
  | succ i =>
    have e : ((i + 1 : Nat) : Int) - 1 = (i : Int) := by omega
    rw [if_neg (by omega), w64 (x := ((i + 1 : Nat) : Int) - 1) (by omega) (by omega), e, if_pos (by omega), if_pos (by omega), rdRun l i (by omega), before_succ l i (by omega)]
    simp only
    by_cases c1 : l[i + 1].f0 < l[i].f0
    · rw [if_pos c1, if_neg (by rw [runAfter_iff]; omega)]
    rw [if_neg c1]
    by_cases c2 : l[i + 1].f0 = l[i].f0
    · rw [if_pos c2]
      by_cases c3 : l[i + 1].f1 ≤ l[i].f2
      · rw [if_pos c3, if_neg (by rw [runAfter_iff]; omega)]
      · rw [if_neg c3, if_pos (by rw [runAfter_iff]; omega)]
    · rw [if_neg c2, if_pos (by rw [runAfter_iff]; omega)]
theorem impl_isRegion_eq (l : List Run) (hl : l.length ≤ 9223372036854775807) (k : Nat) (hk : 2 * l.length + 1 < k) : impl_isRegion.f k l = some (validR l) := by
  have key : ∀ d i k, i + d = l.length → 2 * d < k → impl_isRegion.l0 k l l (l.length : Int) (i : Int) = some (validFrom (before l i) (l.drop i)) := by
    intro d
    induction d with
    | zero =>
      intro i k hi hk
      obtain ⟨k, rfl⟩ : ∃ m, k = m + 1 := ⟨k - 1, by omega⟩
      simp only [impl_isRegion.l0]
      rw [if_neg (by omega), List.drop_of_length_le (by omega)]
      cases before l i <;> rfl
    | succ d ih =>
      intro i k hi hk
      obtain ⟨k, rfl⟩ : ∃ m, k = m + 1 + 1 := ⟨k - 2, by omega⟩
      have hlt : i < l.length := by omega
      have hn := ih (i + 1) k (by omega) (by omega)
      rw [validFrom_at l i hlt]
      simp only [impl_isRegion.l0]
      rw [if_pos (by omega), if_pos (by omega), rdRun l i hlt]
      simp only [if_pos (show (i : Int) < (l.length : Int) by omega), ival_j1 l i k hl hlt, hn]
      by_cases c : runOK l[i] = true
      · rw [c, Bool.true_and]
        rw [runOK_iff] at c
        rw [if_neg (by omega), if_neg (by omega), if_neg (by omega), if_neg (by omega), if_neg (by simp; omega)]
        cases (match before l i with | none => true | some p => runAfter p l[i]) <;> rfl
      · have hc := c
        rw [runOK_iff] at c
        simp only [Bool.not_eq_true] at hc
        rw [hc, Bool.false_and, Bool.false_and]
        try simp only [if_true]
        by_cases c1 : l[i].f0 < 0
        · rw [if_pos c1]
        rw [if_neg c1]
        by_cases c2 : l[i].f0 ≥ 16
        · rw [if_pos c2]
        rw [if_neg c2]
        by_cases c3 : l[i].f1 < 0
        · rw [if_pos c3]
        rw [if_neg c3]
        by_cases c4 : l[i].f2 ≤ l[i].f1
        · rw [if_pos c4]
        rw [if_neg c4, if_pos (by simp; omega)]
  unfold impl_isRegion.f
  have := key l.length 0 k (by omega) (by omega)
  simpa [before_zero, validR] using this
theorem validFrom_ok (l : List Run) : ∀ p, validFrom p l = true → ∀ r ∈ l, runOK r = true := by
  induction l with
  | nil => intro p _ r hr; cases hr
  | cons x xs ih =>
    intro p h r hr
    have h2 : runOK x = true ∧ validFrom (some x) xs = true := by
      cases p with
      | none => simpa [validFrom] using h
      | some p => simp [validFrom] at h; exact ⟨h.1.1, h.2⟩
    rcases List.mem_cons.1 hr with rfl | hr
    · exact h2.1
    · exact ih _ h2.2 r hr
theorem valid_ok {l : List Run} (h : validR l = true) : ∀ r ∈ l, runOK r = true := validFrom_ok l none h
end Go.Proofs.Ytfgeickfheogoaa.Pure

/- impl.RegionHas: false for runs of no region; else whether the pixel is in their grid. -/
namespace Go.Proofs.Ytfgeickfheogoaa.Q
open Go.RowKit Go.Proofs.YtfgeickfheogoaaW.PrintWords Go.Proofs.YtfgeickfheogoaaW.PrintLast Go.Proofs.YtfgeickfheogoaaW.PrintMore
attribute [local go_sem] max2_int min2_int max_two min_two max_three min_three max_four min_four
set_option linter.unusedVariables false
set_option linter.unusedSimpArgs false
open Go.Proofs.Ytfgeickfheogoaa.Pure

theorem valid_ranges {l : List S57} (h : validR l = true) : ∀ r ∈ l, 0 ≤ r.f0 ∧ r.f0 < 16 ∧ 0 ≤ r.f1 ∧ r.f2 ≤ 16 := by
  intro r hr
  have := (runOK_iff r).1 (valid_ok h r hr)
  omega
def impl_RegionHas.f (l0 : List S57) (a1 a2 : Int) : Option Bool := some (validR l0 && hasP (gridF l0) a1 a2)

set_option maxHeartbeats 2000000 in
set_option maxRecDepth 100000 in
theorem impl_RegionHas.calls (A0 : Option Addr) (c0 : Nat) (l0 : List S57) (a1 a2 : Int) (r : Bool) (w : World) (hr0 : Kd.C k57 w A0 l0.length l0) (hc0 : l0.length ≤ c0) (h : impl_RegionHas.f l0 a1 a2 = some r) :
    Calls Try.prog 25 #[.slice A0 l0.length c0, .int .i64 a1, .int .i64 a2] w fun e w' => e = .returned (.bool r) ∧ Below w.heap.size w w' := by
  obtain rfl := Option.some.inj h
  clear h
  have HC := Aside0.mk (impl_isRegion.calls (2 * l0.length + 2) A0 c0 l0 (validR l0) w hr0 hc0 (impl_isRegion_eq l0 hr0.2.1 _ (by omega)))
  have HR := Aside0.mk hr0
  clear hr0
  by_cases hv : validR l0 = true
  · have HV := Aside0.mk (valid_ranges hv)
    rw [hv] at HC ⊢
    clear hv
    go_enter Try.func25, Try.ntmps25
    go_wp2_with (first
      | (go_at_call 55; refine HC.out.mono ?_; rintro e w1 ⟨rfl, hb1⟩; have HB1 := Aside0.mk hb1; clear hb1)
      | (go_at_call 59; refine (gridOf_calls _ _ _ _ (Kd.C_below HR.out HB1.out) HV.out).mono ?_; rintro e w2 ⟨rfl, hb2⟩; have HB2 := Aside0.mk (below_then HB1.out HB1.out.size hb2); clear hb2)
      | (go_at_call 60; refine (has_calls _ _ _ _).mono ?_; rintro e w3 ⟨rfl, hb3⟩; have HB3 := Aside0.mk (below_then HB2.out HB2.out.size hb3); clear hb3))
    go_ret
    exact ⟨by rw [Bool.true_and]; rfl, HB3.out⟩
  · replace hv : validR l0 = false := by simpa using hv
    rw [hv] at HC ⊢
    clear hv
    go_enter Try.func25, Try.ntmps25
    go_wp2_with (first
      | (go_at_call 55; refine HC.out.mono ?_; rintro e w1 ⟨rfl, hb1⟩; have HB1 := Aside0.mk hb1; clear hb1))
    go_ret
    exact ⟨by rw [Bool.false_and]; rfl, HB1.out⟩
end Go.Proofs.Ytfgeickfheogoaa.Q

/- Copies of runs: they are the runs. -/
namespace Go.Proofs.Ytfgeickfheogoaa.Pure
open Go.RowKit Go.Proofs.Ytfgeickfheogoaa.Q Go.Proofs.YtfgeickfheogoaaW.PrintWords Go.Proofs.YtfgeickfheogoaaW.PrintLast Go.Proofs.YtfgeickfheogoaaW.PrintMore
set_option linter.unusedVariables false
set_option linter.unusedSimpArgs false

abbrev LRun := S59
theorem rdLRun (l : List LRun) (i : Nat) (h : i < l.length) : rd_T59 l (i : Int) = l[i] := by simp [rd_T59, h]
/-! copies -/
def cRun (r : LRun) : Run := ⟨r.f0, r.f1, r.f2⟩
theorem toRunS_eq (l : List LRun) (hl : l.length ≤ 2000000) (k : Nat) (hk : l.length < k) : laws_toRunS.f k l = some (l.map cRun) := by
  have h := loop_up 0 l.length (fun k i s => laws_toRunS.l0 k l s (i : Int)) (fun i s => s.length = l.length) (fun i s => s.take i ++ (l.drop i).map cRun)
    (by
      intro i s k hi hs _
      refine .inr ⟨s.set i (cRun l[i]), ?_, by simpa using hs, ?_⟩
      · simp only [laws_toRunS.l0]
        rw [if_pos (by omega), if_pos (by omega), rdLRun l i hi]
        simp only [laws_toRun.f, Option.bind_some]
        rw [if_pos (by omega), w64n i (by omega)]; rfl
      · skip
        rw [take_set s i _ (by omega), List.drop_eq_getElem_cons hi, List.map_cons, List.append_assoc]; rfl)
    (by
      intro s k hs _
      simp only [laws_toRunS.l0]
      rw [if_neg (by omega), List.drop_length]; simp [← hs])
    l.length 0 (List.replicate l.length z57) k (by omega) (by simp) (by omega)
  unfold laws_toRunS.f
  rw [if_pos (by omega), if_pos (by omega)]
  simpa using h
theorem eqRunS_refl (l : List Run) (hl : l.length ≤ 1000000000000) (k : Nat) (hk : l.length < k) : laws_eqRunS.f k l l = some true := by
  have h := loop_up 0 l.length (fun k i (_ : Unit) => laws_eqRunS.l0 k l l (i : Int)) (fun _ _ => True) (fun _ _ => true)
    (by
      intro i s k hi _ _
      refine .inr ⟨(), ?_, trivial, rfl⟩
      simp only [laws_eqRunS.l0]
      rw [if_pos (by omega), if_pos (by omega), if_pos (by omega), w64n i (by omega)]
      simp [laws_eqRun.f])
    (by
      intro s k _ _
      simp only [laws_eqRunS.l0]
      rw [if_neg (by omega)])
    l.length 0 () k (by omega) trivial (by omega)
  unfold laws_eqRunS.f
  rw [if_pos rfl]
  simpa using h
theorem szRunS_eq (l : List LRun) (n : Int) (h0 : 0 ≤ n) (h1 : n ≤ 1048576) (hl : l.length ≤ 9223372036854775807) :
    (l.length ≤ 1048576 ∧ n - (l.length : Int) ≥ 0 ∧ laws_szRunS.f l n = some (n - (l.length : Int))) ∨ laws_szRunS.f l n = some (-1) := by
  unfold laws_szRunS.f
  by_cases c : (l.length : Int) ≤ n
  · left
    rw [w64 (by omega) (by omega), if_neg (by omega)]
    exact ⟨by omega, by omega, rfl⟩
  · right
    rw [w64 (by omega) (by omega), if_pos (by omega)]
end Go.Proofs.Ytfgeickfheogoaa.Pure

/- impl.CombineRegions: the runs of the grid of the pixels for which a rule holds for two regions. -/
namespace Go.Proofs.Ytfgeickfheogoaa.Q
open Go.RowKit Go.Proofs.YtfgeickfheogoaaW.PrintWords Go.Proofs.YtfgeickfheogoaaW.PrintLast Go.Proofs.YtfgeickfheogoaaW.PrintMore
attribute [local go_sem] max2_int min2_int max_two min_two max_three min_three max_four min_four
set_option linter.unusedVariables false
set_option linter.unusedSimpArgs false
open Go.Proofs.Ytfgeickfheogoaa.Pure

/-- the rule of a kind -/
def combB (k : Int) (p q : Bool) : Bool := if k = 0 then p || q else if k = 1 then p && q else if k = 2 then p && !q else p != q
def combG (k : Int) (g1 g2 : Nat → Bool) (x y : Nat) : Bool := combB k (g1 (y * 16 + x)) (g2 (y * 16 + x))
def impl_CombineRegions.f (l0 l1 : List S57) (k : Int) : Option (List S57 × Bool) :=
  some (if (validR l0 && validR l1 && decide (0 ≤ k ∧ k ≤ 3)) = true then (runsL (gso (combG k (gridF l0) (gridF l1)) 256), true) else ([], false))

set_option maxHeartbeats 800000 in
set_option maxRecDepth 100000 in
theorem comb_calls (g1 g2 : Nat → Bool) (k : Int) (hk : 0 ≤ k ∧ k ≤ 3) (x y : Nat) (hx : x < 16) (hy : y < 16) (B1 B2 B3 : Nat) (w : World)
    (h1 : GridAt w B1 g1) (h2 : GridAt w B2 g2) (h3 : w.heap[B3]? = some (.cells #[.int .i64 k] 3 (0, 0))) :
    Calls Try.prog 77 #[.int .i64 (x : Int), .int .i64 (y : Int), .pointer (some ⟨B1, 0, none⟩), .pointer (some ⟨B2, 0, none⟩), .pointer (some ⟨B3, 0, none⟩)] w fun e w' => e = .returned (.bool (combG k g1 g2 x y)) ∧ Below w.heap.size w w' := by
  have c1 := h1.cell (y * 16 + x) (by omega)
  have c2 := h2.cell (y * 16 + x) (by omega)
  have c3 : w.cell? ⟨B3, 0, none⟩ = some (.int .i64 k) := (blk_cell h3 0).trans rfl
  clear h1 h2 h3
  obtain rfl | rfl | rfl | rfl : k = 0 ∨ k = 1 ∨ k = 2 ∨ k = 3 := by omega
  all_goals clear hk
  all_goals
    cases hp : g1 (y * 16 + x) <;> cases hq : g2 (y * 16 + x) <;> rw [hp] at c1 <;> rw [hq] at c2
  all_goals
    have HE := Aside0.mk (show ∀ k, combG k g1 g2 x y = combB k (g1 (y * 16 + x)) (g2 (y * 16 + x)) from fun _ => rfl)
    rw [hp, hq] at HE
    clear hp hq
    go_enter Try.func77, Try.ntmps77
    go_wp2
    go_quiet (fail)
    go_wp2
    go_ret
    exact ⟨by rw [HE.out]; rfl, pw_below_drewN (Below.refl _ _) _⟩

theorem setRow_keep' {W : World} {k g : Nat} {o : Obj} (h : W.heap[k]? = some o) (cs : Array Value) (hk : k ≠ g) : (W.setRow g cs).heap[k]? = some o := (setRow_other W g k cs hk).trans h

set_option maxHeartbeats 800000 in
set_option maxRecDepth 100000 in
theorem impl_CombineRegions.calls (A0 : Option Addr) (c0 : Nat) (l0 : List S57) (A1 : Option Addr) (c1 : Nat) (l1 : List S57) (a2 : Int) (r1 : List S57) (r2 : Bool) (w : World) (hr0 : Kd.C k57 w A0 l0.length l0) (hc0 : l0.length ≤ c0) (hr1 : Kd.C k57 w A1 l1.length l1) (hc1 : l1.length ≤ c1) (h : impl_CombineRegions.f l0 l1 a2 = some (r1, r2)) :
    Calls Try.prog 41 #[.slice A0 l0.length c0, .slice A1 l1.length c1, .int .i64 a2] w fun e w' => ∃ v0_ : Value, e = .returned (.tuple #[v0_, .bool r2]) ∧ Kd.R k57 57 w' w.heap.size (fun _ => True) v0_ r1 ∧ Below w.heap.size w w' := by
  have h' := Option.some.inj h
  clear h
  have HB0 := Aside0.mk (below_alloc (Below.refl w.heap.size w) (.cells #[.int .i64 a2] 3))
  have HK := Aside0.mk (blk_new w (.cells #[.int .i64 a2] 3))
  have HR0 := Aside0.mk (Kd.C_below hr0 HB0.out)
  have HR1 := Aside0.mk (Kd.C_below hr1 HB0.out)
  have HC0 := Aside0.mk (fun W (hb : Below (w.alloc (.cells #[.int .i64 a2] 3)).heap.size (w.alloc (.cells #[.int .i64 a2] 3)) W) => impl_isRegion.calls (2 * l0.length + 2) A0 c0 l0 (validR l0) W (Kd.C_below HR0.out hb) hc0 (impl_isRegion_eq l0 hr0.2.1 _ (by omega)))
  have HC1 := Aside0.mk (fun W (hb : Below (w.alloc (.cells #[.int .i64 a2] 3)).heap.size (w.alloc (.cells #[.int .i64 a2] 3)) W) => impl_isRegion.calls (2 * l1.length + 2) A1 c1 l1 (validR l1) W (Kd.C_below HR1.out hb) hc1 (impl_isRegion_eq l1 hr1.2.1 _ (by omega)))
  have q0 := (blk_cell HK.out 0).trans (show (#[.int .i64 a2] : Array Value)[0]? = some (.int .i64 a2) from rfl)
  clear hr0 hr1
  by_cases hv0 : validR l0 = true
  · by_cases hv1 : validR l1 = true
    · by_cases hk : 0 ≤ a2 ∧ a2 ≤ 3
      · have HV0 := Aside0.mk (valid_ranges hv0)
        have HV1 := Aside0.mk (valid_ranges hv1)
        rw [hv0, hv1, decide_eq_true hk, if_pos (by rfl)] at h'
        obtain ⟨rfl, rfl⟩ := Prod.mk.inj h'
        clear h'
        rw [hv0] at HC0
        rw [hv1] at HC1
        clear hv0 hv1
        have d1 : decide (a2 < 0) = false := by simp; omega
        have d2 : decide (3 < a2) = false := by simp; omega
        have HH := Aside0.mk hk
        clear hk
        have z0 := zero66
        have HSZ := Aside0.mk (fun g : Nat → Bool => show (gc fun _ => false).size = (gc g).size by rw [gc_size, gc_size])
        have HO := Aside0.mk (fun g : Nat → Bool => gc_one g)
        have HI := Aside0.mk (fun g : Nat → Bool => show (Try.prog.info? 66).map (·.size) = some (gc g).size by rw [gc_size]; exact info66)
        go_enter Try.func41, Try.ntmps41
        go_wp2_with (first
          | (go_at_call 55; (with_reducible refine (HC0.out _ (Below.refl _ _)).mono ?_); rintro e w1 ⟨rfl, hb1⟩; have HB1 := Aside0.mk hb1; clear hb1)
          | (go_at_call 55; (with_reducible refine (HC1.out w1 HB1.out).mono ?_); rintro e w2 ⟨rfl, hb2⟩; have HB2 := Aside0.mk (below_then HB1.out HB1.out.size hb2); clear hb2; have q2 : w2.cell? ⟨w.heap.size, 0, none⟩ = some (.int .i64 a2) := (blk_cell (blk_below HK.out HB2.out) 0).trans rfl)
          | (go_at_call 59; (with_reducible refine (gridOf_calls _ _ l0 w2 (Kd.C_below HR0.out HB2.out) HV0.out).mono ?_); rintro e w3 ⟨rfl, hb3⟩; have HB3 := Aside0.mk (below_then HB2.out HB2.out.size hb3); clear hb3)
          | (go_at_call 59; (with_reducible refine (gridOf_calls _ _ l1 w3 (Kd.C_below HR1.out HB3.out) HV1.out).mono ?_); rintro e w4 ⟨rfl, hb4⟩; have HB4 := Aside0.mk (below_then HB3.out HB3.out.size hb4); clear hb4;
              have HK4 := Aside0.mk (setRow_keep' (setRow_keep' (blk_alloc (blk_alloc (blk_below HK.out HB4.out) (.cells (gc fun _ => false) 66)) (.cells (gc fun _ => false) 66)) (gc (gridF l0)) (show w.heap.size ≠ w4.heap.size by have := HB4.out.size; simp only [World.size_alloc] at this; omega)) (gc (gridF l1)) (show w.heap.size ≠ w4.heap.size + 1 by have := HB4.out.size; simp only [World.size_alloc] at this; omega));
              have HA4 : Aside0 (((w4.alloc (.cells (gc fun _ => false) 66)).alloc (.cells (gc fun _ => false) 66)).heap[w4.heap.size]? = some (.cells (gc fun _ => false) 66 (0, 0))) := Aside0.mk (blk_alloc (blk_new w4 (.cells (gc fun _ => false) 66)) (.cells (gc fun _ => false) 66));
              have HA5 : Aside0 ((((w4.alloc (.cells (gc fun _ => false) 66)).alloc (.cells (gc fun _ => false) 66)).setRow w4.heap.size (gc (gridF l0))).heap[w4.heap.size + 1]? = some (.cells (gc fun _ => false) 66 (0, 0))) := Aside0.mk (setRow_keep' (by have h := blk_new (w4.alloc (.cells (gc fun _ => false) 66)) (.cells (gc fun _ => false) 66); simp only [World.size_alloc] at h; exact h) (gc (gridF l0)) (by omega));
              have HG1 : Aside0 (GridAt ((((w4.alloc (.cells (gc fun _ => false) 66)).alloc (.cells (gc fun _ => false) 66)).setRow w4.heap.size (gc (gridF l0))).setRow (w4.heap.size + 1) (gc (gridF l1))) w4.heap.size (gridF l0)) := Aside0.mk (setRow_keep' (GridAt.setRow (g := fun _ => false) HA4.out (gridF l0)) (gc (gridF l1)) (by omega));
              have HG2 : Aside0 (GridAt ((((w4.alloc (.cells (gc fun _ => false) 66)).alloc (.cells (gc fun _ => false) 66)).setRow w4.heap.size (gc (gridF l0))).setRow (w4.heap.size + 1) (gc (gridF l1))) (w4.heap.size + 1) (gridF l1)) := Aside0.mk (GridAt.setRow (g := fun _ => false) HA5.out (gridF l1));
              have HB5 := Aside0.mk (below_setRow (below_setRow (below_alloc (below_alloc (below_then HB0.out HB0.out.size HB4.out) (.cells (gc fun _ => false) 66)) (.cells (gc fun _ => false) 66)) (show w.heap.size ≤ w4.heap.size from (below_then HB0.out HB0.out.size HB4.out).size) (gc (gridF l0))) (show w.heap.size ≤ w4.heap.size + 1 from Nat.le_succ_of_le (below_then HB0.out HB0.out.size HB4.out).size) (gc (gridF l1))))
          | ((with_reducible refine wpList_store_row rfl 66 (.tmp 8) (.tmp 27) rfl w4.heap.size (gc (gridF l0)) ?hx ?hy 66 (gc fun _ => false) HA4.out (HI.out _) (HSZ.out _) (HO.out _) ?_); (case hx => rfl); (case hy => rfl))
          | ((with_reducible refine wpList_store_row rfl 66 (.tmp 9) (.tmp 29) rfl (w4.heap.size + 1) (gc (gridF l1)) ?hx ?hy 66 (gc fun _ => false) HA5.out (HI.out _) (HSZ.out _) (HO.out _) ?_); (case hx => rfl); (case hy => rfl))
          | (go_at_call 62; refine (gridBy_calls 77 #[.pointer (some ⟨w4.heap.size, 0, none⟩), .pointer (some ⟨w4.heap.size + 1, 0, none⟩), .pointer (some ⟨w.heap.size, 0, none⟩)] (combG a2 (gridF l0) (gridF l1)) ((((w4.alloc (.cells (gc fun _ => false) 66)).alloc (.cells (gc fun _ => false) 66)).setRow w4.heap.size (gc (gridF l0))).setRow (w4.heap.size + 1) (gc (gridF l1))) (enters_of Try.func77 (by kernel_rfl) rfl) (fun W x y hx hy hW => comb_calls (gridF l0) (gridF l1) a2 HH.out x y hx hy _ _ _ W (HG1.out.below hW) (HG2.out.below hW) (blk_below HK4.out hW))).mono ?_; rintro e w5 ⟨rfl, hb5⟩; have HB6 := Aside0.mk (below_then HB5.out HB5.out.size hb5); clear hb5)
          | (go_at_call 65; refine (runs_calls _ _).mono ?_; rintro e w6 ⟨v6, rfl, hr6, hb6⟩; have HR6 := Aside0.mk (Kd.R_lower hr6 HB6.out.size); have HB7 := Aside0.mk (below_then HB6.out HB6.out.size hb6); clear hb6 hr6))
        go_ret2
        exact ⟨v6, rfl, HR6.out, HB7.out⟩
      · rw [hv0, hv1, decide_eq_false hk, if_neg (by decide)] at h'
        obtain ⟨rfl, rfl⟩ := Prod.mk.inj h'
        clear h'
        rw [hv0] at HC0
        rw [hv1] at HC1
        clear hv0 hv1
        by_cases hk0 : a2 < 0
        · have d1 : decide (a2 < 0) = true := by simp; omega
          clear hk hk0
          go_enter Try.func41, Try.ntmps41
          go_wp2_with (first
            | (go_at_call 55; (with_reducible refine (HC0.out _ (Below.refl _ _)).mono ?_); rintro e w1 ⟨rfl, hb1⟩; have HB1 := Aside0.mk hb1; clear hb1)
            | (go_at_call 55; (with_reducible refine (HC1.out w1 HB1.out).mono ?_); rintro e w2 ⟨rfl, hb2⟩; have HB2 := Aside0.mk (below_then HB1.out HB1.out.size hb2); clear hb2; have q2 : w2.cell? ⟨w.heap.size, 0, none⟩ = some (.int .i64 a2) := (blk_cell (blk_below HK.out HB2.out) 0).trans rfl))
          go_ret2
          exact ⟨_, rfl, Kd.R_nil _ _ _ _ _, below_then HB0.out HB0.out.size HB2.out⟩
        · have d1 : decide (a2 < 0) = false := by simp; omega
          have d2 : decide (3 < a2) = true := by simp; omega
          clear hk hk0
          go_enter Try.func41, Try.ntmps41
          go_wp2_with (first
            | (go_at_call 55; (with_reducible refine (HC0.out _ (Below.refl _ _)).mono ?_); rintro e w1 ⟨rfl, hb1⟩; have HB1 := Aside0.mk hb1; clear hb1)
            | (go_at_call 55; (with_reducible refine (HC1.out w1 HB1.out).mono ?_); rintro e w2 ⟨rfl, hb2⟩; have HB2 := Aside0.mk (below_then HB1.out HB1.out.size hb2); clear hb2; have q2 : w2.cell? ⟨w.heap.size, 0, none⟩ = some (.int .i64 a2) := (blk_cell (blk_below HK.out HB2.out) 0).trans rfl))
          go_ret2
          exact ⟨_, rfl, Kd.R_nil _ _ _ _ _, below_then HB0.out HB0.out.size HB2.out⟩
    · replace hv1 : validR l1 = false := by simpa using hv1
      rw [hv0, hv1, if_neg (by simp)] at h'
      obtain ⟨rfl, rfl⟩ := Prod.mk.inj h'
      clear h'
      rw [hv0] at HC0
      rw [hv1] at HC1
      clear hv0 hv1
      go_enter Try.func41, Try.ntmps41
      go_wp2_with (first
        | (go_at_call 55; (with_reducible refine (HC0.out _ (Below.refl _ _)).mono ?_); rintro e w1 ⟨rfl, hb1⟩; have HB1 := Aside0.mk hb1; clear hb1)
        | (go_at_call 55; (with_reducible refine (HC1.out w1 HB1.out).mono ?_); rintro e w2 ⟨rfl, hb2⟩; have HB2 := Aside0.mk (below_then HB1.out HB1.out.size hb2); clear hb2; have q2 : w2.cell? ⟨w.heap.size, 0, none⟩ = some (.int .i64 a2) := (blk_cell (blk_below HK.out HB2.out) 0).trans rfl))
      go_ret2
      exact ⟨_, rfl, Kd.R_nil _ _ _ _ _, below_then HB0.out HB0.out.size HB2.out⟩
  · replace hv0 : validR l0 = false := by simpa using hv0
    rw [hv0, if_neg (by simp)] at h'
    obtain ⟨rfl, rfl⟩ := Prod.mk.inj h'
    clear h'
    rw [hv0] at HC0
    clear hv0
    go_enter Try.func41, Try.ntmps41
    go_wp2_with (first
      | (go_at_call 55; (with_reducible refine (HC0.out _ (Below.refl _ _)).mono ?_); rintro e w1 ⟨rfl, hb1⟩; have HB1 := Aside0.mk hb1; clear hb1))
    go_ret2
    exact ⟨_, rfl, Kd.R_nil _ _ _ _ _, below_then HB0.out HB0.out.size HB1.out⟩
end Go.Proofs.Ytfgeickfheogoaa.Q
