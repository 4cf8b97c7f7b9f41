/- A part of the proof that the statement FnChangedBoxesSaid holds, under no condition of its own: Boxes have all changes: the law FnChangedBoxes over lists of numbers alone. -/
import Derived.Test.YtbgohbinonkhfaaCFnChangedBoxes1
import Derived.Test.YtbgohbinonkhfaaCFnChangedBoxes2
import Derived.OrdersHeld
import Derived.Deep.RegionHeld
import Derived.RegionTactic
namespace Go.Proofs.Ytbgohbinonkhfaa.Q
open Go.RowKit Go.Proofs.YtbgohbinonkhfaaW.PrintWords Go.Proofs.YtbgohbinonkhfaaW.PrintLast Go.Proofs.YtbgohbinonkhfaaW.PrintMore
attribute [local go_sem] max2_int min2_int max_two min_two max_three min_three max_four min_four
set_option linter.unusedVariables false
set_option linter.unusedSimpArgs false
mutual
noncomputable def spec_parts.l0 : Nat → List (List S47) → List Bool → Int → Option ((List (List S47)))
  | 0, _, _, _ => none
  | k + 1, x3, x4, x5 => if x5 < (x4.length : Int) then (if 0 ≤ x5 then (if rdOf false x4 x5 = true then ((spec_spreadFrom.f x4 x5).bind fun t77008 => ((spec_runsOf.f k t77008).bind fun t77011 => (if x3.length < 5864062014805 then (spec_parts.l1 k (x3 ++ [t77011]) x4 x5 t77008 0) else none))) else (spec_parts.l0 k x3 x4 (wrap64 (x5 + 1)))) else none) else (some x3)
noncomputable def spec_parts.l1 : Nat → List (List S47) → List Bool → Int → List Bool → Int → Option ((List (List S47)))
  | 0, _, _, _, _, _ => none
  | k + 1, x3, x4, x5, x6, x7 => if x7 < (x4.length : Int) then (if 0 ≤ x7 then (if rdOf false x4 x7 = true then (if x7 < (x6.length : Int) then (spec_parts.l1 k x3 (x4.set (x7 : Int).toNat (!(rdOf false x6 x7))) x5 x6 (wrap64 (x7 + 1))) else none) else (spec_parts.l1 k x3 (x4.set (x7 : Int).toNat false) x5 x6 (wrap64 (x7 + 1)))) else none) else (spec_parts.l0 k x3 x4 (wrap64 (x5 + 1)))
end
noncomputable def spec_parts.f (k : Nat) (l0 : List S47) : Option ((List (List S47))) := (spec_gridOf.f k l0).bind fun t77004 => (spec_parts.l0 k (([] : List (List S47))) t77004 0)
theorem spec_parts.mono_l : ∀ k, (∀ y0 y1 y2, LeO (spec_parts.l0 k y0 y1 y2) (spec_parts.l0 (k + 1) y0 y1 y2)) ∧ (∀ y0 y1 y2 y3 y4, LeO (spec_parts.l1 k y0 y1 y2 y3 y4) (spec_parts.l1 (k + 1) y0 y1 y2 y3 y4))
  | 0 => ⟨fun _ _ _ r h => by simp [spec_parts.l0] at h, fun _ _ _ _ _ r h => by simp [spec_parts.l1] at h⟩
  | k + 1 => by
    obtain ⟨ih0, ih1⟩ := spec_parts.mono_l k
    refine ⟨?_, ?_⟩
    · intro y0 y1 y2
      unfold spec_parts.l0
      repeat' first | (with_reducible exact ih0 _ _ _) | (with_reducible exact ih1 _ _ _ _ _) | (with_reducible exact spec_runsOf.mono _ _) | (with_reducible exact LeO.refl _) | (with_reducible refine LeO.ite ?_ ?_) | (with_reducible refine LeO.bind ?_ (fun _ => ?_))
    · intro y0 y1 y2 y3 y4
      unfold spec_parts.l1
      repeat' first | (with_reducible exact ih0 _ _ _) | (with_reducible exact ih1 _ _ _ _ _) | (with_reducible exact LeO.refl _) | (with_reducible refine LeO.ite ?_ ?_)
theorem spec_parts.mono : ∀ a0 k, LeO (spec_parts.f k a0) (spec_parts.f (k + 1) a0) := by
  intro a0 k
  obtain ⟨ih0, ih1⟩ := spec_parts.mono_l k
  unfold spec_parts.f
  repeat' first | (with_reducible exact ih0 _ _ _) | (with_reducible exact spec_gridOf.mono _ _) | (with_reducible refine LeO.bind ?_ (fun _ => ?_))
set_option maxHeartbeats 8000000 in
set_option maxRecDepth 100000 in
theorem spec_parts.calls (k : Nat) (A0 : Option Addr) (c0 : Nat) (l0 : List S47) (r : List (List S47)) (w : World) (hr0 : Kd.C k47 w A0 l0.length l0) (hc0 : l0.length ≤ c0) (h : spec_parts.f k l0 = some r) :
    Calls Try.prog 76 #[.slice A0 l0.length c0] w fun e w' => ∃ v0_ : Value, e = .returned v0_ ∧ Kd.S (Kd.slice 47 k47) 26 w' w.heap.size (fun _ => True) v0_ r ∧ Below w.heap.size w w' := by
  have HR0 := Aside0.mk hr0
  have HC0 := Aside0.mk hc0
  clear hr0 hc0
  have HB := Aside0.mk (Below.refl w.heap.size w)
  have H : ((spec_gridOf.f k l0).bind fun t77004 => (spec_parts.l0 k (([] : List (List S47))) t77004 0)) = some r := h
  clear h
  obtain ⟨y77001, hy77001⟩ : ∃ y_ : List (List S47), y_ = (([] : List (List S47))) := ⟨_, rfl⟩
  replace H : ((spec_gridOf.f k l0).bind fun t77004 => (spec_parts.l0 k y77001 t77004 0)) = some r := by (rw [hy77001]; with_reducible exact H)
  have Ny77001 := Aside0.mk hy77001
  clear hy77001
  replace H := Option.bind_eq_some_iff.mp H
  obtain ⟨t77004, A20, H⟩ := H
  replace H : (spec_parts.l0 k y77001 t77004 0) = some r := H
  have A2 := Aside0.mk A20
  clear A20
  have H' := Aside0.mk H
  clear H
  go_enter Try.func76, Try.ntmps76
  go_wp2_with (first | ((with_reducible refine gate_dst (N := 8) rfl ?_); refine Kd.S_lit (Kd.slice 47 k47) _ 26 ?hg (N := 8) ?hd (xs := ([] : List (List S47))) (inner := []) (ok := fun _ => True) (okp := fun _ => True) ?hr ?hp (fun _ hk => hk) trivial (Below.refl _ _) (Nat.le_refl _) (by simp) ?_; (case hd => rfl); (case hg => rfl); (case hr => (go_simp; done)); (case hp => exact (Reps.none _ _)); intro v77002 w3 ho4 hb hg_ hnew_; clear hg_ hnew_; (rw [← Ny77001.out] at ho4); have n0_ := Aside0.mk (Kd.S_lower ho4 (below_size HB.out)); have n1_ := Aside0.mk (below_step HB.out hb); clear HB; have HO77003 := n0_; have HB := n1_; clear n0_ n1_; clear hb ho4) | ((with_reducible refine gate_callee (f := 104) rfl ?_); refine goesL_ (some 10) rfl rfl Try.func104 (by kernel_rfl) rfl #[.slice A0 l0.length c0] rfl (by (try simp only [List.map_toArray, List.map_cons, List.map_nil]); rfl) ?_; (with_reducible refine (spec_gridOf.calls k _ _ l0 t77004 _ ?side1 ?side2 A2.out).mono ?_); (case side1 => repeat (exact (Kd.C_below HR0.out HB.out))); (case side2 => exact HC0.out); rintro e w5 ⟨v77005, rfl, ho0, hb⟩; refine ⟨_, rfl, ?_⟩; have n0_ := Aside0.mk (Kd.S_below HO77003.out hb); have n1_ := Aside0.mk (Kd.R_lower ho0 (below_size HB.out)); have n2_ := Aside0.mk (below_step HB.out hb); clear HO77003; clear HB; have HO77003 := n0_; have HO77006 := n1_; have HB := n2_; clear n0_ n1_ n2_; (try clear hb); (try clear ho0)))
  go_loopg [3, 5] k (fun kq v3 v5 w' => ∃ (x3_1 : List (List S47)) (x4_1 : List Bool) (x5_1 : Int), v5 = .int .i64 x5_1 ∧ Aside0 (spec_parts.l0 kq x3_1 x4_1 x5_1 = some r) ∧ Aside0 (kq ≤ k) ∧ Aside0 (Kd.S (Kd.slice 47 k47) 26 w' w.heap.size (fun _ => True) v3 x3_1) ∧ Aside0 (Kd.R Kd.bool 4 w' w.heap.size (fun _ => True) v77005 x4_1) ∧ Aside0 (Below w.heap.size w w'))
  case atStart => exact ⟨(y77001), (t77004), (0), (by rfl), H', ⟨Nat.le_refl _⟩, ⟨by (with_reducible repeat (first | apply Kd.S_alloc | apply Kd.S_drewN | apply Kd.S_drew)); exact HO77003.out⟩, ⟨by (with_reducible repeat (first | apply Kd.R_alloc | apply Kd.R_drewN | apply Kd.R_drew)); exact HO77006.out⟩, ⟨by exact HB.out⟩⟩
  case round =>
    clear H'
    try clear c1
    try clear p2
    obtain ⟨x3_1, x4_1, x5_1, rfl, HA, HK1, HO_3, HO_4, HB⟩ := hrel
    cases gk with
    | zero => exact absurd HA.out (by simp [spec_parts.l0])
    | succ k1 =>
      have H := HA.out
      clear HA
      simp only [spec_parts.l0] at H
      by_cases c6 : x5_1 < (x4_1.length : Int)
      · rw [if_pos c6] at H
        have c6b0 : decide (x5_1 < (x4_1.length : Int)) = true := decide_eq_true c6
        clear c6
        by_cases c7 : 0 ≤ x5_1
        · rw [if_pos c7] at H
          have c7b0 : decide (0 ≤ x5_1) = true := decide_eq_true c7
          clear c7
          obtain ⟨bq8, hbq8⟩ : ∃ b_ : Bool, b_ = (rdOf false x4_1 x5_1) := ⟨_, rfl⟩
          replace H : (if bq8 = true then ((spec_spreadFrom.f x4_1 x5_1).bind fun t77008 => ((spec_runsOf.f k1 t77008).bind fun t77011 => (if x3_1.length < 5864062014805 then (spec_parts.l1 k1 (x3_1 ++ [t77011]) x4_1 x5_1 t77008 0) else none))) else (spec_parts.l0 k1 x3_1 x4_1 (wrap64 (x5_1 + 1)))) = some r := by rw [← hbq8] at H; exact H
          have Nbq8 := Aside0.mk hbq8
          clear hbq8
          by_cases c9 : bq8 = true
          · subst c9
            have H1 : ((spec_spreadFrom.f x4_1 x5_1).bind fun t77008 => ((spec_runsOf.f k1 t77008).bind fun t77011 => (if x3_1.length < 5864062014805 then (spec_parts.l1 k1 (x3_1 ++ [t77011]) x4_1 x5_1 t77008 0) else none))) = some r := by rw [if_pos rfl] at H; exact H
            clear H
            have H := H1
            clear H1
            replace H := Option.bind_eq_some_iff.mp H
            obtain ⟨t77008, A100, H⟩ := H
            replace H : ((spec_runsOf.f k1 t77008).bind fun t77011 => (if x3_1.length < 5864062014805 then (spec_parts.l1 k1 (x3_1 ++ [t77011]) x4_1 x5_1 t77008 0) else none)) = some r := H
            have A10 := Aside0.mk A100
            clear A100
            replace H := Option.bind_eq_some_iff.mp H
            obtain ⟨t77011, A110, H⟩ := H
            replace H : (if x3_1.length < 5864062014805 then (spec_parts.l1 k1 (x3_1 ++ [t77011]) x4_1 x5_1 t77008 0) else none) = some r := H
            have A11 := Aside0.mk A110
            clear A110
            by_cases c12 : x3_1.length < 5864062014805
            · rw [if_pos c12] at H
              have LMc12 := Aside0.mk c12
              clear c12
              obtain ⟨y77014, hy77014⟩ : ∃ y_ : List (List S47), y_ = (x3_1 ++ [t77011]) := ⟨_, rfl⟩
              replace H : (spec_parts.l1 k1 y77014 x4_1 x5_1 t77008 0) = some r := by (rw [hy77014]; with_reducible exact H)
              have Ny77014 := Aside0.mk hy77014
              clear hy77014
              have H' := Aside0.mk H
              clear H
              obtain ⟨Ao13, co13, eo13⟩ := Kd.R_slice HO_4.out
              subst eo13
              have p77007 : 0 ≤ (x5_1 : Int) := of_decide_eq_true (by (with_reducible assumption))
              have q77007 : x5_1 < (x4_1.length : Int) := of_decide_eq_true (by (with_reducible assumption))
              obtain ⟨ad77007, e77007, hx77007_0⟩ := Kd.at_bool (Kd.R_reads' HO_4.out).2.2 x5_1 p77007 q77007
              (try rw [← Nbq8.out] at hx77007_0)
              cases e77007
              obtain ⟨gz_77007, cz_, ez_, _, _, _⟩ := Kd.R_form HO_4.out (by omega)
              (cases ez_)
              rw [add_at, Nat.zero_add] at hx77007_0
              replace p77007 := eq_true p77007
              replace q77007 := eq_true q77007
              go_wp2_with (first | ((with_reducible refine gate_callee (f := 66) rfl ?_); refine goesL_ (some 23) rfl rfl Try.func66 (by kernel_rfl) rfl #[.slice (some ⟨gz_77007, 0, none⟩) x4_1.length co13, .int .i64 x5_1] rfl (by (try simp only [List.map_toArray, List.map_cons, List.map_nil]); rfl) ?_; (with_reducible refine (spec_spreadFrom.calls _ _ x4_1 x5_1 t77008 _ ?side1 ?side2 A10.out).mono ?_); (case side1 => repeat (exact (Kd.R_reads' HO_4.out).2.2)); (case side2 => exact (Kd.R_reads' HO_4.out).2.1); rintro e w14 ⟨v77009, rfl, ho0, hb⟩; refine ⟨_, rfl, ?_⟩; have n0_ := Aside0.mk (Kd.S_below HO_3.out hb); have n1_ := Aside0.mk (Kd.R_elder' HO_4.out (Kd.R_base ho0) hb); have n2_ := Aside0.mk (Kd.R_lower (Kd.R_new' ho0 (Kd.R_lt HO_4.out)) (below_size HB.out)); have n3_ := Aside0.mk (below_step HB.out hb); clear HO_3; clear HO_4; clear HB; have HO_3 := n0_; have HO_4 := n1_; have HO77010 := n2_; have HB := n3_; clear n0_ n1_ n2_ n3_; (try clear hb); (try clear ho0); obtain ⟨Ao15, co15, eo15⟩ := Kd.R_slice HO77010.out; subst eo15) | ((with_reducible refine gate_callee (f := 65) rfl ?_); refine goesL_ (some 26) rfl rfl Try.func65 (by kernel_rfl) rfl #[.slice Ao15 t77008.length co15] rfl (by (try simp only [List.map_toArray, List.map_cons, List.map_nil]); rfl) ?_; (with_reducible refine (spec_runsOf.calls k1 _ _ t77008 t77011 _ ?side1 ?side2 A11.out).mono ?_); (case side1 => repeat (exact (Kd.R_reads' HO77010.out).2.2)); (case side2 => exact (Kd.R_reads' HO77010.out).2.1); rintro e w16 ⟨v77012, rfl, ho0, hb⟩; refine ⟨_, rfl, ?_⟩; have n0_ := Aside0.mk (Kd.S_elder' HO_3.out (Kd.R_base ho0) hb); have n1_ := Aside0.mk (Kd.R_below HO_4.out hb); have n2_ := Aside0.mk (Kd.R_below HO77010.out hb); have n3_ := Aside0.mk (Kd.R_lower ho0 (below_size HB.out)); have n4_ := Aside0.mk (below_step HB.out hb); clear HO_3; clear HO_4; clear HO77010; clear HB; have HO_3 := n0_; have HO_4 := n1_; have HO77010 := n2_; have HO77013 := n3_; have HB := n4_; clear n0_ n1_ n2_ n3_ n4_; (try clear hb); (try clear ho0); obtain ⟨Ao18, co18, eo18⟩ := Kd.R_slice HO77013.out; subst eo18) | ((with_reducible refine gate_builtin (b := .append) (xs := #[.tmp 24, .tmp 27]) rfl ?_); at_builtin; refine Kd.S_append (Kd.slice 47 k47) (w0 := w) w.heap.size rfl (.tmp 24) (.tmp 27) 51 26 (.slice none 0 0) 24 rfl Try.underlying51 info26 rfl (by decide) (by omega) u3 x3_1 t77011 [.slice Ao18 t77011.length co18] (fun _ => True) (fun k_ => some k_ = (.slice Ao18 t77011.length co18 : Value).ownBlock) rfl rfl ?aP (fun k_ hk_ => ((Kd.R_mono (ok' := fun k_ => (fun _ => True) k_ ∧ some k_ ≠ (u3 : Value).ownBlock) (Kd.R_apart' HO77013.out (Kd.S_typed HO_3.out) (by decide)) (fun k_ hk => ⟨trivial, hk.2⟩))).1 k_ hk_.symm) ?aF ?aO ?aB ?aS ?aL ?_; (case aP => exact Kd.M_row (Kd.R_mono (Kd.R_tight rfl (Kd.R_mono (ok' := fun k_ => (fun _ => True) k_ ∧ some k_ ≠ (u3 : Value).ownBlock) (Kd.R_apart' HO77013.out (Kd.S_typed HO_3.out) (by decide)) (fun k_ hk => ⟨trivial, hk.2⟩))) (fun _ h_ => h_))); (case aB => exact HB.out); (case aF => exact (fun _ _ => trivial)); (case aO => exact (by exact Kd.S_mono HO_3.out (fun k_ hk => ⟨trivial, fun e_ => hk.2 e_⟩))); (case aS => exact (below_size HB.out)); (case aL => have := LMc12.out; omega); intro v77015 w17 ho hb hg hat; rw [← Ny77014.out] at ho; have n0_ := Aside0.mk (Kd.R_over' HO_4.out (Kd.S_typed HO_3.out) (by decide) hg); have n1_ := Aside0.mk (Kd.R_over' HO77010.out (Kd.S_typed HO_3.out) (by decide) hg); have n2_ := Aside0.mk (hb); have n3_ := Aside0.mk (ho); clear HO_4; clear HO77010; clear HB; clear HO_3; clear HO77013; have HO_4 := n0_; have HO77010 := n1_; have HB := n2_; have HO77016 := n3_; clear n0_ n1_ n2_ n3_; clear ho hb hg hat))
              go_loopg [7] k1 (fun kq v7 w' => ∃ (x4_2 : List Bool) (x7_2 : Int), v7 = .int .i64 x7_2 ∧ Aside0 (spec_parts.l1 kq y77014 x4_2 x5_1 t77008 x7_2 = some r) ∧ Aside0 (kq ≤ k1) ∧ Aside0 (Kd.S (Kd.slice 47 k47) 26 w' w.heap.size (fun _ => True) v77015 y77014) ∧ Aside0 (Kd.R Kd.bool 4 w' w.heap.size (fun k_ => some k_ ≠ ((.slice Ao15 t77008.length co15) : Value).ownBlock) (.slice (some ⟨gz_77007, 0, none⟩) x4_1.length co13) x4_2) ∧ Aside0 (Kd.R Kd.bool 4 w' w.heap.size (fun k_ => some k_ ≠ ((.slice (some ⟨gz_77007, 0, none⟩) x4_1.length co13) : Value).ownBlock) (.slice Ao15 t77008.length co15) t77008) ∧ Aside0 (Below w.heap.size w w'))
              case atStart => exact ⟨(x4_1), (0), (by rfl), H', ⟨Nat.le_refl _⟩, ⟨by (with_reducible repeat (first | apply Kd.S_alloc | apply Kd.S_drewN | apply Kd.S_drew)); exact HO77016.out⟩, ⟨by (with_reducible repeat (first | apply Kd.R_alloc | apply Kd.R_drewN | apply Kd.R_drew)); exact Kd.R_mono HO_4.out (fun _ hk => hk.2)⟩, ⟨by (with_reducible repeat (first | apply Kd.R_alloc | apply Kd.R_drewN | apply Kd.R_drew)); exact Kd.R_mono HO77010.out (fun _ hk => hk.2)⟩, ⟨by exact HB.out⟩⟩
              case round =>
                clear H'
                try clear c1
                try clear p2
                try clear c6
                try clear c6b0
                try clear p6
                try clear c7
                try clear c7b0
                try clear p7
                try clear q7
                try clear hx7
                try clear q8
                try clear c9
                try clear c10
                try clear c12
                try clear hx77007_0
                try clear p2
                try clear p77007
                try clear q77007
                obtain ⟨x4_2, x7_2, rfl, HA, HK2, HO_3, HO_4, HO_6, HB⟩ := hrel
                have hl4_2 := (Kd.R_reads' HO_4.out).1
                rw [hl4_2] at HO_4
                (try simp only [hl4_2])
                (try simp only [hl4_2] at HO_6)
                cases gk with
                | zero => exact absurd HA.out (by simp [spec_parts.l1])
                | succ k2 =>
                  have H := HA.out
                  clear HA
                  simp only [spec_parts.l1] at H
                  by_cases c19 : x7_2 < (x4_2.length : Int)
                  · rw [if_pos c19] at H
                    have c19b0 : decide (x7_2 < (x4_2.length : Int)) = true := decide_eq_true c19
                    clear c19
                    by_cases c20 : 0 ≤ x7_2
                    · rw [if_pos c20] at H
                      have c20b0 : decide (0 ≤ x7_2) = true := decide_eq_true c20
                      clear c20
                      obtain ⟨bq21, hbq21⟩ : ∃ b_ : Bool, b_ = (rdOf false x4_2 x7_2) := ⟨_, rfl⟩
                      replace H : (if bq21 = true then (if x7_2 < (t77008.length : Int) then (spec_parts.l1 k2 y77014 (x4_2.set (x7_2 : Int).toNat (!(rdOf false t77008 x7_2))) x5_1 t77008 (wrap64 (x7_2 + 1))) else none) else (spec_parts.l1 k2 y77014 (x4_2.set (x7_2 : Int).toNat false) x5_1 t77008 (wrap64 (x7_2 + 1)))) = some r := by rw [← hbq21] at H; exact H
                      have Nbq21 := Aside0.mk hbq21
                      clear hbq21
                      by_cases c22 : bq21 = true
                      · subst c22
                        have H1 : (if x7_2 < (t77008.length : Int) then (spec_parts.l1 k2 y77014 (x4_2.set (x7_2 : Int).toNat (!(rdOf false t77008 x7_2))) x5_1 t77008 (wrap64 (x7_2 + 1))) else none) = some r := by rw [if_pos rfl] at H; exact H
                        clear H
                        have H := H1
                        clear H1
                        by_cases c23 : x7_2 < (t77008.length : Int)
                        · rw [if_pos c23] at H
                          have c23b0 : decide (x7_2 < (t77008.length : Int)) = true := decide_eq_true c23
                          clear c23
                          obtain ⟨y77019, hy77019⟩ : ∃ y_ : List Bool, y_ = (x4_2.set (x7_2 : Int).toNat (!(rdOf false t77008 x7_2))) := ⟨_, rfl⟩
                          replace H : (spec_parts.l1 k2 y77014 y77019 x5_1 t77008 (wrap64 (x7_2 + 1))) = some r := by (rw [hy77019]; with_reducible exact H)
                          have Ny77019 := Aside0.mk hy77019
                          clear hy77019
                          have H' := Aside0.mk H
                          clear H
                          have p77017 : 0 ≤ (x7_2 : Int) := of_decide_eq_true (by (with_reducible assumption))
                          have q77017 : x7_2 < (x4_2.length : Int) := of_decide_eq_true (by (with_reducible assumption))
                          obtain ⟨ad77017, e77017, hx77017_0⟩ := Kd.at_bool (Kd.R_reads' HO_4.out).2.2 x7_2 p77017 q77017
                          (try rw [← Nbq21.out] at hx77017_0)
                          obtain rfl := Option.some.inj e77017
                          replace p77017 := eq_true p77017
                          replace q77017 := eq_true q77017
                          have p77018 : 0 ≤ (x7_2 : Int) := of_decide_eq_true (by (with_reducible assumption))
                          have q77018 : x7_2 < (t77008.length : Int) := of_decide_eq_true (by (with_reducible assumption))
                          obtain ⟨ad77018, e77018, hx77018_0⟩ := Kd.at_bool (Kd.R_reads' HO_6.out).2.2 x7_2 p77018 q77018
                          cases e77018
                          replace p77018 := eq_true p77018
                          replace q77018 := eq_true q77018
                          have p24 : 0 ≤ (x7_2 : Int) := of_decide_eq_true (by (with_reducible assumption))
                          have q24 : (x7_2 : Int) < ((x4_2.length : Int) : Int) := of_decide_eq_true (by (with_reducible assumption))
                          obtain ⟨go24, co24, eo24, gb24, gl24, cl24, HG24⟩ := Kd.R_form HO_4.out (by omega)
                          (cases eo24)
                          have GB24 := Aside0.mk gb24
                          have GG24 := Aside0.mk HG24
                          clear gb24 gl24 HG24
                          (skip)
                          (simp only [add_plain] at hx77017_0)
                          obtain ⟨hx24_0, hf24_0⟩ := Kd.R_celln false HO_4.out (x7_2 : Int) p24 q24
                          replace p24 := eq_true p24
                          replace q24 := eq_true q24
                          have HP25 := Kd.R_putg HO_4.out (x7_2 : Int) (!(rdOf false t77008 x7_2))
                          go_wp2_with (first | ((with_reducible refine gate_store (t := 4) (p := 48) rfl ?_); refine store_event (t := 4) (p := 48) (v := ?vo_w26) (w1 := (wr.setCell ⟨gz_77007, (x7_2 : Int).toNat, none⟩ (.bool (!(rdOf false t77008 x7_2))))) ?hg ?ho ?hn ?hr ?_; (case ho => rfl); (case hg => rfl); (case hn => rfl); (case hr => (go_simp; done)); intro w26 hw; have hg : wr.grownBy w26 (some gz_77007) := (by rw [hw]; exact HP25.2); have hp_ : Kd.R Kd.bool 4 w26 w.heap.size (fun k_ => some k_ ≠ (.slice (some ad77018) t77008.length co15 : Value).ownBlock) (.slice (some ⟨gz_77007, 0, none⟩) x4_2.length co13) y77019 := (by rw [hw, Ny77019.out]; exact HP25.1); clear HP25; have n0_ := Aside0.mk (Kd.S_over' (v := (.slice (some ⟨gz_77007, 0, none⟩) x4_2.length co13)) HO_3.out (Kd.R_typed HO_4.out) (by decide) hg); have n1_ := Aside0.mk (hp_); have n2_ := Aside0.mk (Kd.R_after (v := (.slice (some ⟨gz_77007, 0, none⟩) x4_2.length co13)) (v1 := (.slice (some ⟨gz_77007, 0, none⟩) x4_2.length co13)) (ok := (fun _ => True)) (by exact Kd.R_mono HO_6.out (fun _ hk => ⟨trivial, hk⟩)) hg (.inl rfl)); have n3_ := Aside0.mk ((by rw [hw]; exact below_set HB.out GB24.out : Below w.heap.size w w26)); clear HO_3; clear HO_4; clear HO_6; clear HB; have HO_3 := n0_; have HO_4 := n1_; have HO_6 := n2_; have HB := n3_; clear n0_ n1_ n2_ n3_; clear hg hw hp_))
                          (try simp only [← hl4_2])
                          go_roundg k2
                          case measure => have := HK1.out; have := HK2.out; omega
                          case rel => exact ⟨(y77019), (wrap64 (x7_2 + 1)), (by rfl), H', ⟨by have := HK1.out; have := HK2.out; omega⟩, ⟨by (with_reducible repeat (first | apply Kd.S_alloc | apply Kd.S_drewN | apply Kd.S_drew)); exact HO_3.out⟩, ⟨by (try simp only [hl4_2]); (with_reducible repeat (first | apply Kd.R_alloc | apply Kd.R_drewN | apply Kd.R_drew)); exact HO_4.out⟩, ⟨by (try simp only [hl4_2]); (with_reducible repeat (first | apply Kd.R_alloc | apply Kd.R_drewN | apply Kd.R_drew)); exact Kd.R_mono HO_6.out (fun _ hk => hk.2)⟩, ⟨by exact HB.out⟩⟩
                        · rw [if_neg c23] at H
                          exact absurd H (by simp)
                      · replace c22 := Bool.eq_false_iff.mpr c22
                        subst c22
                        have H1 : (spec_parts.l1 k2 y77014 (x4_2.set (x7_2 : Int).toNat false) x5_1 t77008 (wrap64 (x7_2 + 1))) = some r := by rw [if_neg (show ¬ (false = true) by decide)] at H; exact H
                        clear H
                        have H := H1
                        clear H1
                        obtain ⟨y77020, hy77020⟩ : ∃ y_ : List Bool, y_ = (x4_2.set (x7_2 : Int).toNat false) := ⟨_, rfl⟩
                        replace H : (spec_parts.l1 k2 y77014 y77020 x5_1 t77008 (wrap64 (x7_2 + 1))) = some r := by (rw [hy77020]; with_reducible exact H)
                        have Ny77020 := Aside0.mk hy77020
                        clear hy77020
                        have H' := Aside0.mk H
                        clear H
                        have p77017 : 0 ≤ (x7_2 : Int) := of_decide_eq_true (by (with_reducible assumption))
                        have q77017 : x7_2 < (x4_2.length : Int) := of_decide_eq_true (by (with_reducible assumption))
                        obtain ⟨ad77017, e77017, hx77017_0⟩ := Kd.at_bool (Kd.R_reads' HO_4.out).2.2 x7_2 p77017 q77017
                        (try rw [← Nbq21.out] at hx77017_0)
                        obtain rfl := Option.some.inj e77017
                        replace p77017 := eq_true p77017
                        replace q77017 := eq_true q77017
                        have p27 : 0 ≤ (x7_2 : Int) := of_decide_eq_true (by (with_reducible assumption))
                        have q27 : (x7_2 : Int) < ((x4_2.length : Int) : Int) := of_decide_eq_true (by (with_reducible assumption))
                        obtain ⟨go27, co27, eo27, gb27, gl27, cl27, HG27⟩ := Kd.R_form HO_4.out (by omega)
                        (cases eo27)
                        have GB27 := Aside0.mk gb27
                        have GG27 := Aside0.mk HG27
                        clear gb27 gl27 HG27
                        (simp only [add_plain] at hx77017_0)
                        obtain ⟨hx27_0, hf27_0⟩ := Kd.R_celln false HO_4.out (x7_2 : Int) p27 q27
                        replace p27 := eq_true p27
                        replace q27 := eq_true q27
                        have HP28 := Kd.R_putg HO_4.out (x7_2 : Int) false
                        go_wp2_with (first | ((with_reducible refine gate_store (t := 4) (p := 48) rfl ?_); refine store_event (t := 4) (p := 48) (v := ?vo_w29) (w1 := (wr.setCell ⟨gz_77007, (x7_2 : Int).toNat, none⟩ (.bool false))) ?hg ?ho ?hn ?hr ?_; (case ho => rfl); (case hg => rfl); (case hn => rfl); (case hr => (go_simp; done)); intro w29 hw; have hg : wr.grownBy w29 (some gz_77007) := (by rw [hw]; exact HP28.2); have hp_ : Kd.R Kd.bool 4 w29 w.heap.size (fun k_ => some k_ ≠ (.slice Ao15 t77008.length co15 : Value).ownBlock) (.slice (some ⟨gz_77007, 0, none⟩) x4_2.length co13) y77020 := (by rw [hw, Ny77020.out]; exact HP28.1); clear HP28; have n0_ := Aside0.mk (Kd.S_over' (v := (.slice (some ⟨gz_77007, 0, none⟩) x4_2.length co13)) HO_3.out (Kd.R_typed HO_4.out) (by decide) hg); have n1_ := Aside0.mk (hp_); have n2_ := Aside0.mk (Kd.R_after (v := (.slice (some ⟨gz_77007, 0, none⟩) x4_2.length co13)) (v1 := (.slice (some ⟨gz_77007, 0, none⟩) x4_2.length co13)) (ok := (fun _ => True)) (by exact Kd.R_mono HO_6.out (fun _ hk => ⟨trivial, hk⟩)) hg (.inl rfl)); have n3_ := Aside0.mk ((by rw [hw]; exact below_set HB.out GB27.out : Below w.heap.size w w29)); clear HO_3; clear HO_4; clear HO_6; clear HB; have HO_3 := n0_; have HO_4 := n1_; have HO_6 := n2_; have HB := n3_; clear n0_ n1_ n2_ n3_; clear hg hw hp_))
                        (try simp only [← hl4_2])
                        go_roundg k2
                        case measure => have := HK1.out; have := HK2.out; omega
                        case rel => exact ⟨(y77020), (wrap64 (x7_2 + 1)), (by rfl), H', ⟨by have := HK1.out; have := HK2.out; omega⟩, ⟨by (with_reducible repeat (first | apply Kd.S_alloc | apply Kd.S_drewN | apply Kd.S_drew)); exact HO_3.out⟩, ⟨by (try simp only [hl4_2]); (with_reducible repeat (first | apply Kd.R_alloc | apply Kd.R_drewN | apply Kd.R_drew)); exact HO_4.out⟩, ⟨by (try simp only [hl4_2]); (with_reducible repeat (first | apply Kd.R_alloc | apply Kd.R_drewN | apply Kd.R_drew)); exact Kd.R_mono HO_6.out (fun _ hk => hk.2)⟩, ⟨by exact HB.out⟩⟩
                    · rw [if_neg c20] at H
                      exact absurd H (by simp)
                  · rw [if_neg c19] at H
                    have c19b0 : decide (x7_2 < (x4_2.length : Int)) = false := decide_eq_false c19
                    clear c19
                    have H' := Aside0.mk H
                    clear H
                    go_wp2
                    (try simp only [← hl4_2])
                    go_roundg k2
                    case measure => have := HK1.out; have := HK2.out; omega
                    case rel => exact ⟨(y77014), (x4_2), (wrap64 (x5_1 + 1)), (by rfl), H', ⟨by have := HK1.out; have := HK2.out; omega⟩, ⟨by (with_reducible repeat (first | apply Kd.S_alloc | apply Kd.S_drewN | apply Kd.S_drew)); exact HO_3.out⟩, ⟨by (try simp only [hl4_2]); (with_reducible repeat (first | apply Kd.R_alloc | apply Kd.R_drewN | apply Kd.R_drew)); exact Kd.R_mono HO_4.out (fun _ hk => trivial)⟩, ⟨by exact HB.out⟩⟩
            · rw [if_neg c12] at H
              exact absurd H (by simp)
          · replace c9 := Bool.eq_false_iff.mpr c9
            subst c9
            have H1 : (spec_parts.l0 k1 x3_1 x4_1 (wrap64 (x5_1 + 1))) = some r := by rw [if_neg (show ¬ (false = true) by decide)] at H; exact H
            clear H
            have H := H1
            clear H1
            have H' := Aside0.mk H
            clear H
            obtain ⟨Ao30, co30, eo30⟩ := Kd.R_slice HO_4.out
            subst eo30
            have p77007 : 0 ≤ (x5_1 : Int) := of_decide_eq_true (by (with_reducible assumption))
            have q77007 : x5_1 < (x4_1.length : Int) := of_decide_eq_true (by (with_reducible assumption))
            obtain ⟨ad77007, e77007, hx77007_0⟩ := Kd.at_bool (Kd.R_reads' HO_4.out).2.2 x5_1 p77007 q77007
            (try rw [← Nbq8.out] at hx77007_0)
            cases e77007
            obtain ⟨gz_77007, cz_, ez_, _, _, _⟩ := Kd.R_form HO_4.out (by omega)
            (cases ez_)
            rw [add_at, Nat.zero_add] at hx77007_0
            replace p77007 := eq_true p77007
            replace q77007 := eq_true q77007
            go_wp2
            go_roundg k1
            case measure => have := HK1.out; omega
            case rel => exact ⟨(x3_1), (x4_1), (wrap64 (x5_1 + 1)), (by rfl), H', ⟨by have := HK1.out; omega⟩, ⟨by (with_reducible repeat (first | apply Kd.S_alloc | apply Kd.S_drewN | apply Kd.S_drew)); exact HO_3.out⟩, ⟨by (with_reducible repeat (first | apply Kd.R_alloc | apply Kd.R_drewN | apply Kd.R_drew)); exact HO_4.out⟩, ⟨by exact HB.out⟩⟩
        · rw [if_neg c7] at H
          exact absurd H (by simp)
      · rw [if_neg c6] at H
        have c6b0 : decide (x5_1 < (x4_1.length : Int)) = false := decide_eq_false c6
        clear c6
        obtain rfl := Option.some.inj H
        obtain ⟨Ao31, co31, eo31⟩ := Kd.R_slice HO_4.out
        subst eo31
        go_wp2
        go_ret
        exact ⟨_, by rfl, by (with_reducible repeat (first | apply Kd.S_alloc | apply Kd.S_drewN | apply Kd.S_drew)); exact HO_3.out, by exact HB.out⟩


def spec_boundsOf.l0 : Nat → List S47 → Int → Int → Int → Option (Int × Int × Int × Int)
  | 0, _, _, _, _ => none
  | k + 1, x0, x3, x4, x5 => if x5 < (x0.length : Int) then (if 0 ≤ x5 then (spec_boundsOf.l0 k x0 (mn x3 ((rd_T47 x0 x5).f1)) (mx x4 ((rd_T47 x0 x5).f2)) (wrap64 (x5 + 1))) else none) else (if 0 < (x0.length : Int) then (if 0 ≤ (wrap64 ((x0.length : Int) - 1)) then (if (wrap64 ((x0.length : Int) - 1)) < (x0.length : Int) then (some (x3, (rd_T47 x0 0).f0, wrap64 (x4 - x3), wrap64 ((wrap64 (((rd_T47 x0 (wrap64 ((x0.length : Int) - 1))).f0) - ((rd_T47 x0 0).f0))) + 1))) else none) else none) else none)
def spec_boundsOf.f (k : Nat) (l0 : List S47) : Option (Int × Int × Int × Int) := if 0 < (l0.length : Int) then (spec_boundsOf.l0 k l0 ((rd_T47 l0 0).f1) ((rd_T47 l0 0).f2) 0) else (none)
theorem spec_boundsOf.mono_l : ∀ k, (∀ y0 y1 y2 y3, LeO (spec_boundsOf.l0 k y0 y1 y2 y3) (spec_boundsOf.l0 (k + 1) y0 y1 y2 y3))
  | 0 => fun _ _ _ _ r h => by simp [spec_boundsOf.l0] at h
  | k + 1 => by
    have ih0 := spec_boundsOf.mono_l k
    · intro y0 y1 y2 y3
      unfold spec_boundsOf.l0
      repeat' first | (with_reducible exact ih0 _ _ _ _) | (with_reducible exact LeO.refl _) | (with_reducible refine LeO.ite ?_ ?_)
theorem spec_boundsOf.mono : ∀ a0 k, LeO (spec_boundsOf.f k a0) (spec_boundsOf.f (k + 1) a0) := by
  intro a0 k
  have ih0 := spec_boundsOf.mono_l k
  unfold spec_boundsOf.f
  repeat' first | (with_reducible exact ih0 _ _ _ _) | (with_reducible exact LeO.refl _) | (with_reducible refine LeO.ite ?_ ?_)
def spec_boundsOf.T8 : Bool × List (List Nat × List Nat) := (true, [([], []), ([], []), ([1], [1]), ([2], [2]), ([3], [3]), ([], []), ([], []), ([5, 6], [5, 6]), ([], []), ([], []), ([9], [9]), ([10], [10]), ([8, 11], [8, 11]), ([12], [12]), ([13], [13]), ([], []), ([15], [15]), ([16], [16]), ([17], [17]), ([14, 18], [14, 18]), ([19], [19]), ([0, 4, 7, 20], [0, 4, 7, 20]), ([21, 0, 1, 2, 3, 4, 5, 6, 7, 8, 9, 10, 11, 12, 13, 14, 15, 16, 17, 18, 19, 20, 21], [21])])
def spec_boundsOf.B8 : List Nat := [0, 0, 2, 6, 14, 0, 0, 96, 0, 0, 512, 1536, 3840, 7936, 16128, 0, 32768, 98304, 229376, 524032, 1048320, 2097151, 4194303]
theorem spec_boundsOf.tab8 : rtab .any (opsOf Try.f77 8) = spec_boundsOf.T8 := by kernel_rfl
theorem spec_boundsOf.bits8 : waitsOk spec_boundsOf.T8.2 spec_boundsOf.B8 = true := by kernel_rfl
set_option maxHeartbeats 8000000 in
set_option maxRecDepth 100000 in
theorem spec_boundsOf.calls (k : Nat) (A0 : Option Addr) (c0 : Nat) (l0 : List S47) (r1 : Int) (r2 : Int) (r3 : Int) (r4 : Int) (w : World) (hr0 : Kd.C k47 w A0 l0.length l0) (hc0 : l0.length ≤ c0) (h : spec_boundsOf.f k l0 = some (r1, r2, r3, r4)) :
    Calls Try.prog 77 #[.slice A0 l0.length c0] w fun e w' => e = .returned (.agg #[.int .i64 r1, .int .i64 r2, .int .i64 r3, .int .i64 r4]) ∧ Below w.heap.size w w' := by
  have hu60 := Try.underlying60
  have HR0 := Aside0.mk hr0
  have HC0 := Aside0.mk hc0
  clear hr0 hc0
  have HB := Aside0.mk (Below.refl w.heap.size w)
  have H : (if 0 < (l0.length : Int) then (spec_boundsOf.l0 k l0 ((rd_T47 l0 0).f1) ((rd_T47 l0 0).f2) 0) else none) = some (r1, r2, r3, r4) := h
  clear h
  by_cases c2 : 0 < (l0.length : Int)
  · rw [if_pos c2] at H
    have c2b0 : decide (0 < (l0.length : Int)) = true := decide_eq_true c2
    have c2b1 : decide (0 < l0.length) = true := decide_eq_true (by omega)
    clear c2
    have H' := Aside0.mk H
    clear H
    go_enter Try.func77, Try.ntmps77
    go_wp2_with (first | ((with_reducible refine gate_dst (N := 2) rfl ?_); refine box_event ?hg (N := 2) ?hd (cs := #[.int .i64 0, .int .i64 0, .int .i64 0, .int .i64 0]) (t := 60) ?hr ?_; (case hd => rfl); (case hg => rfl); (case hr => (go_simp; done)); intro gb78001 hg w3 hbox hb; have n0_ := Aside0.mk (below_step HB.out hb); have n1_ := Aside0.mk (hbox); have n2_ := Aside0.mk ((by rw [hg]; exact (below_size HB.out) : w.heap.size ≤ gb78001)); have n3_ := Aside0.mk ((by rw [hg]; exact (below_size HB.out) : w.heap.size ≤ gb78001)); clear HB; have HB := n0_; have BK78001 := n1_; have GW78001 := n2_; have GE78001 := n3_; clear n0_ n1_ n2_ n3_; clear hb hbox hg; have p78002 : 0 ≤ (0 : Int) := (by omega); have q78002 : 0 < (l0.length : Int) := of_decide_eq_true (by (with_reducible assumption)); obtain ⟨ad78002, e78002, hx78002_0, hx78002_1, hx78002_2⟩ := at_T47 HR0.out 0 p78002 q78002; cases e78002; have qi78002 : (0 < l0.length) = True := eq_true (by omega); (try rw [show (0 : Int).toNat = 0 from rfl] at hx78002_0); (try rw [show 0 * 3 = 0 from rfl] at hx78002_0); (try rw [Addr.add_zero'] at hx78002_0); (try rw [show (0 : Int).toNat = 0 from rfl] at hx78002_1); (try rw [show 0 * 3 = 0 from rfl] at hx78002_1); (try rw [Addr.add_zero'] at hx78002_1); (try rw [show (0 : Int).toNat = 0 from rfl] at hx78002_2); (try rw [show 0 * 3 = 0 from rfl] at hx78002_2); (try rw [Addr.add_zero'] at hx78002_2); replace hx78002_0 := (HB.out.cell (World.block_lt_of_cell? w _ hx78002_0)).trans hx78002_0; replace hx78002_1 := (HB.out.cell (World.block_lt_of_cell? w _ hx78002_1)).trans hx78002_1; replace hx78002_2 := (HB.out.cell (World.block_lt_of_cell? w _ hx78002_2)).trans hx78002_2; replace p78002 := eq_true p78002; replace q78002 := eq_true q78002; have p78003 : 0 ≤ (0 : Int) := (by omega); have q78003 : 0 < (l0.length : Int) := of_decide_eq_true (by (with_reducible assumption)); obtain ⟨ad78003, e78003, hx78003_0, hx78003_1, hx78003_2⟩ := at_T47 HR0.out 0 p78003 q78003; obtain rfl : ad78002 = ad78003 := (by injection e78003); have qi78003 : (0 < l0.length) = True := eq_true (by omega); (try rw [show (0 : Int).toNat = 0 from rfl] at hx78003_0); (try rw [show 0 * 3 = 0 from rfl] at hx78003_0); (try rw [Addr.add_zero'] at hx78003_0); (try rw [show (0 : Int).toNat = 0 from rfl] at hx78003_1); (try rw [show 0 * 3 = 0 from rfl] at hx78003_1); (try rw [Addr.add_zero'] at hx78003_1); (try rw [show (0 : Int).toNat = 0 from rfl] at hx78003_2); (try rw [show 0 * 3 = 0 from rfl] at hx78003_2); (try rw [Addr.add_zero'] at hx78003_2); replace hx78003_0 := (HB.out.cell (World.block_lt_of_cell? w _ hx78003_0)).trans hx78003_0; replace hx78003_1 := (HB.out.cell (World.block_lt_of_cell? w _ hx78003_1)).trans hx78003_1; replace hx78003_2 := (HB.out.cell (World.block_lt_of_cell? w _ hx78003_2)).trans hx78003_2; replace p78003 := eq_true p78003; replace q78003 := eq_true q78003))
    go_loopg [3, 4, 5] k (fun kq v3 v4 v5 w' => ∃ (x3_1 : Int) (x4_1 : Int) (x5_1 : Int), v3 = .int .i64 x3_1 ∧ v4 = .int .i64 x4_1 ∧ v5 = .int .i64 x5_1 ∧ Aside0 (spec_boundsOf.l0 kq l0 x3_1 x4_1 x5_1 = some (r1, r2, r3, r4)) ∧ Aside0 (kq ≤ k) ∧ Aside0 (w'.heap[gb78001]? = some (.cells #[.int .i64 0, .int .i64 0, .int .i64 0, .int .i64 0] 60 (0, 0))) ∧ Aside0 (Below w.heap.size w w'))
    case atStart => exact ⟨((rd_T47 l0 0).f1), ((rd_T47 l0 0).f2), (0), (by rfl), (by rfl), (by rfl), H', ⟨Nat.le_refl _⟩, ⟨by (with_reducible repeat (first | refine blk_drewN ?_ _ | refine blk_drew ?_ | refine blk_alloc ?_ _)); exact BK78001.out⟩, ⟨by exact HB.out⟩⟩
    case round =>
      clear H'
      try clear c2
      try clear c2b0
      try clear c2b1
      try clear p2
      try clear hx78002_0
      try clear hx78002_1
      try clear hx78002_2
      try clear hx78003_0
      try clear hx78003_1
      try clear hx78003_2
      try clear p78002
      try clear p78003
      try clear q78002
      try clear q78003
      obtain ⟨x3_1, x4_1, x5_1, rfl, rfl, rfl, HA, HK1, BK78001, HB⟩ := hrel
      cases gk with
      | zero => exact absurd HA.out (by simp [spec_boundsOf.l0])
      | succ k1 =>
        have H := HA.out
        clear HA
        simp only [spec_boundsOf.l0] at H
        by_cases c4 : x5_1 < (l0.length : Int)
        · rw [if_pos c4] at H
          have c4b0 : decide (x5_1 < (l0.length : Int)) = true := decide_eq_true c4
          clear c4
          by_cases c5 : 0 ≤ x5_1
          · rw [if_pos c5] at H
            have c5b0 : decide (0 ≤ x5_1) = true := decide_eq_true c5
            clear c5
            obtain ⟨ji6, hji6⟩ : ∃ j_ : Int, (mn x3_1 ((rd_T47 l0 x5_1).f1)) = j_ := ⟨_, rfl⟩
            replace H : (spec_boundsOf.l0 k1 l0 ji6 (mx x4_1 ((rd_T47 l0 x5_1).f2)) (wrap64 (x5_1 + 1))) = some (r1, r2, r3, r4) := by (rw [hji6] at H; exact H)
            have hji6_ : (if ((rd_T47 l0 x5_1).f1) < x3_1 then ((rd_T47 l0 x5_1).f1) else x3_1) = ji6 := hji6
            obtain ⟨ji7, hji7⟩ : ∃ j_ : Int, (mx x4_1 ((rd_T47 l0 x5_1).f2)) = j_ := ⟨_, rfl⟩
            replace H : (spec_boundsOf.l0 k1 l0 ji6 ji7 (wrap64 (x5_1 + 1))) = some (r1, r2, r3, r4) := by (rw [hji7] at H; exact H)
            have hji7_ : (if x4_1 < ((rd_T47 l0 x5_1).f2) then ((rd_T47 l0 x5_1).f2) else x4_1) = ji7 := hji7
            have H' := Aside0.mk H
            clear H
            have p78004 : 0 ≤ (x5_1 : Int) := of_decide_eq_true (by (with_reducible assumption))
            have q78004 : x5_1 < (l0.length : Int) := of_decide_eq_true (by (with_reducible assumption))
            obtain ⟨ad78004, e78004, hx78004_0, hx78004_1, hx78004_2⟩ := at_T47 HR0.out x5_1 p78004 q78004
            obtain rfl : ad78002 = ad78004 := (by injection e78004)
            replace hx78004_0 := (HB.out.cell (World.block_lt_of_cell? w _ hx78004_0)).trans hx78004_0
            replace hx78004_1 := (HB.out.cell (World.block_lt_of_cell? w _ hx78004_1)).trans hx78004_1
            replace hx78004_2 := (HB.out.cell (World.block_lt_of_cell? w _ hx78004_2)).trans hx78004_2
            replace p78004 := eq_true p78004
            replace q78004 := eq_true q78004
            have p78005 : 0 ≤ (x5_1 : Int) := of_decide_eq_true (by (with_reducible assumption))
            have q78005 : x5_1 < (l0.length : Int) := of_decide_eq_true (by (with_reducible assumption))
            obtain ⟨ad78005, e78005, hx78005_0, hx78005_1, hx78005_2⟩ := at_T47 HR0.out x5_1 p78005 q78005
            obtain rfl : ad78002 = ad78005 := (by injection e78005)
            replace hx78005_0 := (HB.out.cell (World.block_lt_of_cell? w _ hx78005_0)).trans hx78005_0
            replace hx78005_1 := (HB.out.cell (World.block_lt_of_cell? w _ hx78005_1)).trans hx78005_1
            replace hx78005_2 := (HB.out.cell (World.block_lt_of_cell? w _ hx78005_2)).trans hx78005_2
            replace p78005 := eq_true p78005
            replace q78005 := eq_true q78005
            go_wp2
            go_roundg k1
            case measure => have := HK1.out; omega
            case rel => exact ⟨(ji6), (ji7), (wrap64 (x5_1 + 1)), (by rfl), (by rfl), (by rfl), H', ⟨by have := HK1.out; omega⟩, ⟨by (with_reducible repeat (first | refine blk_drewN ?_ _ | refine blk_drew ?_ | refine blk_alloc ?_ _)); exact BK78001.out⟩, ⟨by exact HB.out⟩⟩
          · rw [if_neg c5] at H
            exact absurd H (by simp)
        · rw [if_neg c4] at H
          have c4b0 : decide (x5_1 < (l0.length : Int)) = false := decide_eq_false c4
          clear c4
          by_cases c8 : 0 < (l0.length : Int)
          · rw [if_pos c8] at H
            have c8b0 : decide (0 < (l0.length : Int)) = true := decide_eq_true c8
            have c8b1 : decide (0 < l0.length) = true := decide_eq_true (by omega)
            clear c8
            obtain ⟨ji9, hji9⟩ : ∃ j_ : Int, (wrap64 ((l0.length : Int) - 1)) = j_ := ⟨_, rfl⟩
            replace H : (if 0 ≤ ji9 then (if ji9 < (l0.length : Int) then (some (x3_1, (rd_T47 l0 0).f0, wrap64 (x4_1 - x3_1), wrap64 ((wrap64 (((rd_T47 l0 ji9).f0) - ((rd_T47 l0 0).f0))) + 1))) else none) else none) = some (r1, r2, r3, r4) := by (rw [hji9] at H; exact H)
            have hji9w : (IntKind.i64.wrap ((l0.length : Int) - 1)) = ji9 := (i64_w _).trans hji9
            by_cases c10 : 0 ≤ (ji9)
            · rw [if_pos c10] at H
              have c10b0 : decide (0 ≤ ji9) = true := decide_eq_true c10
              clear c10
              by_cases c11 : ji9 < (l0.length : Int)
              · rw [if_pos c11] at H
                have c11b0 : decide (ji9 < (l0.length : Int)) = true := decide_eq_true c11
                clear c11
                simp only [Option.some.injEq, Prod.mk.injEq] at H
                obtain ⟨rfl, rfl, rfl, rfl⟩ := H
                try go_wp2
                have n0_ := Aside0.mk (blk_drew BK78001.out)
                have n1_ := Aside0.mk (below_drew1 HB.out)
                clear BK78001 HB
                revert n0_ n1_; intro BK78001 HB
                have p78006 : 0 ≤ (0 : Int) := (by omega)
                have q78006 : 0 < (l0.length : Int) := of_decide_eq_true (by (with_reducible assumption))
                obtain ⟨ad78006, e78006, hx78006_0, hx78006_1, hx78006_2⟩ := at_T47 HR0.out 0 p78006 q78006
                have hw78006_2 := hx78006_2
                (try rw [show (0 : Int).toNat = 0 from rfl] at hw78006_2)
                (try rw [show 0 * 3 = 0 from rfl] at hw78006_2)
                (try rw [Addr.add_zero'] at hw78006_2)
                have hw78006_1 := hx78006_1
                (try rw [show (0 : Int).toNat = 0 from rfl] at hw78006_1)
                (try rw [show 0 * 3 = 0 from rfl] at hw78006_1)
                (try rw [Addr.add_zero'] at hw78006_1)
                have hw78006_0 := hx78006_0
                (try rw [show (0 : Int).toNat = 0 from rfl] at hw78006_0)
                (try rw [show 0 * 3 = 0 from rfl] at hw78006_0)
                (try rw [Addr.add_zero'] at hw78006_0)
                obtain rfl : ad78002 = ad78006 := (by injection e78006)
                have qi78006 : (0 < l0.length) = True := eq_true (by omega)
                (try rw [show (0 : Int).toNat = 0 from rfl] at hx78006_0)
                (try rw [show 0 * 3 = 0 from rfl] at hx78006_0)
                (try rw [Addr.add_zero'] at hx78006_0)
                (try rw [show (0 : Int).toNat = 0 from rfl] at hx78006_1)
                (try rw [show 0 * 3 = 0 from rfl] at hx78006_1)
                (try rw [Addr.add_zero'] at hx78006_1)
                (try rw [show (0 : Int).toNat = 0 from rfl] at hx78006_2)
                (try rw [show 0 * 3 = 0 from rfl] at hx78006_2)
                (try rw [Addr.add_zero'] at hx78006_2)
                replace hx78006_0 := (HB.out.cell (World.block_lt_of_cell? w _ hx78006_0)).trans hx78006_0
                replace hx78006_1 := (HB.out.cell (World.block_lt_of_cell? w _ hx78006_1)).trans hx78006_1
                replace hx78006_2 := (HB.out.cell (World.block_lt_of_cell? w _ hx78006_2)).trans hx78006_2
                replace p78006 := eq_true p78006
                replace q78006 := eq_true q78006
                have p78007 : 0 ≤ (ji9 : Int) := of_decide_eq_true (by (with_reducible assumption))
                have q78007 : ji9 < (l0.length : Int) := of_decide_eq_true (by (with_reducible assumption))
                obtain ⟨ad78007, e78007, hx78007_0, hx78007_1, hx78007_2⟩ := at_T47 HR0.out ji9 p78007 q78007
                have hw78007_2 := hx78007_2
                have hw78007_1 := hx78007_1
                have hw78007_0 := hx78007_0
                obtain rfl : ad78002 = ad78007 := (by injection e78007)
                replace hx78007_0 := (HB.out.cell (World.block_lt_of_cell? w _ hx78007_0)).trans hx78007_0
                replace hx78007_1 := (HB.out.cell (World.block_lt_of_cell? w _ hx78007_1)).trans hx78007_1
                replace hx78007_2 := (HB.out.cell (World.block_lt_of_cell? w _ hx78007_2)).trans hx78007_2
                replace p78007 := eq_true p78007
                replace q78007 := eq_true q78007
                have p78008 : 0 ≤ (0 : Int) := (by omega)
                have q78008 : 0 < (l0.length : Int) := of_decide_eq_true (by (with_reducible assumption))
                obtain ⟨ad78008, e78008, hx78008_0, hx78008_1, hx78008_2⟩ := at_T47 HR0.out 0 p78008 q78008
                have hw78008_2 := hx78008_2
                (try rw [show (0 : Int).toNat = 0 from rfl] at hw78008_2)
                (try rw [show 0 * 3 = 0 from rfl] at hw78008_2)
                (try rw [Addr.add_zero'] at hw78008_2)
                have hw78008_1 := hx78008_1
                (try rw [show (0 : Int).toNat = 0 from rfl] at hw78008_1)
                (try rw [show 0 * 3 = 0 from rfl] at hw78008_1)
                (try rw [Addr.add_zero'] at hw78008_1)
                have hw78008_0 := hx78008_0
                (try rw [show (0 : Int).toNat = 0 from rfl] at hw78008_0)
                (try rw [show 0 * 3 = 0 from rfl] at hw78008_0)
                (try rw [Addr.add_zero'] at hw78008_0)
                obtain rfl : ad78002 = ad78008 := (by injection e78008)
                have qi78008 : (0 < l0.length) = True := eq_true (by omega)
                (try rw [show (0 : Int).toNat = 0 from rfl] at hx78008_0)
                (try rw [show 0 * 3 = 0 from rfl] at hx78008_0)
                (try rw [Addr.add_zero'] at hx78008_0)
                (try rw [show (0 : Int).toNat = 0 from rfl] at hx78008_1)
                (try rw [show 0 * 3 = 0 from rfl] at hx78008_1)
                (try rw [Addr.add_zero'] at hx78008_1)
                (try rw [show (0 : Int).toNat = 0 from rfl] at hx78008_2)
                (try rw [show 0 * 3 = 0 from rfl] at hx78008_2)
                (try rw [Addr.add_zero'] at hx78008_2)
                replace hx78008_0 := (HB.out.cell (World.block_lt_of_cell? w _ hx78008_0)).trans hx78008_0
                replace hx78008_1 := (HB.out.cell (World.block_lt_of_cell? w _ hx78008_1)).trans hx78008_1
                replace hx78008_2 := (HB.out.cell (World.block_lt_of_cell? w _ hx78008_2)).trans hx78008_2
                replace p78008 := eq_true p78008
                replace q78008 := eq_true q78008
                refine start_ (n := 23) (S := fun w' => w'.cell? ad78002 = some (.int .i64 ((rd_T47 l0 0).f0)) ∧ w'.cell? ⟨ad78002.block, ad78002.off + 1, none⟩ = some (.int .i64 ((rd_T47 l0 0).f1)) ∧ w'.cell? ⟨ad78002.block, ad78002.off + 2, none⟩ = some (.int .i64 ((rd_T47 l0 0).f2)) ∧ w'.cell? (ad78002.add ((ji9).toNat * 3)) = some (.int .i64 ((rd_T47 l0 ji9).f0)) ∧ w'.cell? ⟨(ad78002.add ((ji9).toNat * 3)).block, (ad78002.add ((ji9).toNat * 3)).off + 1, none⟩ = some (.int .i64 ((rd_T47 l0 ji9).f1)) ∧ w'.cell? ⟨(ad78002.add ((ji9).toNat * 3)).block, (ad78002.add ((ji9).toNat * 3)).off + 2, none⟩ = some (.int .i64 ((rd_T47 l0 ji9).f2)) ∧ w'.cell? ad78002 = some (.int .i64 ((rd_T47 l0 0).f0)) ∧ w'.cell? ⟨ad78002.block, ad78002.off + 1, none⟩ = some (.int .i64 ((rd_T47 l0 0).f1)) ∧ w'.cell? ⟨ad78002.block, ad78002.off + 2, none⟩ = some (.int .i64 ((rd_T47 l0 0).f2))) (ds := []) #[false, false, false, false, false, false, false, false, false, false, false, false, false, false, false, false, false, false, false, false, false, false, false] (by kernel_rfl) rfl rfl ⟨((HB.out.cell (World.block_lt_of_cell? w _ hw78006_0)).trans hw78006_0), ((HB.out.cell (World.block_lt_of_cell? w _ hw78006_1)).trans hw78006_1), ((HB.out.cell (World.block_lt_of_cell? w _ hw78006_2)).trans hw78006_2), ((HB.out.cell (World.block_lt_of_cell? w _ hw78007_0)).trans hw78007_0), ((HB.out.cell (World.block_lt_of_cell? w _ hw78007_1)).trans hw78007_1), ((HB.out.cell (World.block_lt_of_cell? w _ hw78007_2)).trans hw78007_2), ((HB.out.cell (World.block_lt_of_cell? w _ hw78008_0)).trans hw78008_0), ((HB.out.cell (World.block_lt_of_cell? w _ hw78008_1)).trans hw78008_1), ((HB.out.cell (World.block_lt_of_cell? w _ hw78008_2)).trans hw78008_2)⟩ (fun hHeld => ?_); refine with_tabW spec_boundsOf.tab8 spec_boundsOf.bits8 (fun HT_ HW_ => ?_)
                generalize wr.drew = w12 at BK78001 HB hx78006_0 hx78006_1 hx78006_2 hx78007_0 hx78007_1 hx78007_2 hx78008_0 hx78008_1 hx78008_2 hHeld ⊢
                refine pure_ (i := 0) (N := some 34) (v := ?_) (a' := ?_) #[true, false, false, false, false, false, false, false, false, false, false, false, false, false, false, false, false, false, false, false, false, false, false] rfl rfl (any_of HT_.out (by kernel_rfl)) (fun _ _ _ h => h) (Or.inl ⟨by rfl, ?_⟩) ?_ ?_
                rotate_left
                · intro w'
                  go_simp
                  with_reducible rfl
                rotate_left
                · simp only [Act.put, List.setIfInBounds_toArray, List.set_cons_zero, List.set_cons_succ, i64_w, i32_w]
                  rfl
                refine pure_ (i := 1) (N := some 35) (v := ?_) (a' := ?_) #[true, true, false, false, false, false, false, false, false, false, false, false, false, false, false, false, false, false, false, false, false, false, false] rfl rfl (any_of HT_.out (by kernel_rfl)) (fun _ _ _ h => h) (Or.inl ⟨by rfl, ?_⟩) ?_ ?_
                rotate_left
                · intro w'
                  go_simp
                  with_reducible rfl
                rotate_left
                · simp only [Act.put, List.setIfInBounds_toArray, List.set_cons_zero, List.set_cons_succ, i64_w, i32_w]
                  rfl
                refine pure_ (i := 2) (N := some 36) (v := ?_) (a' := ?_) #[true, true, true, false, false, false, false, false, false, false, false, false, false, false, false, false, false, false, false, false, false, false, false] rfl rfl (any_of HT_.out (by kernel_rfl)) (fun _ _ _ h => h) (Or.inl ⟨by rfl, ?_⟩) ?_ ?_
                rotate_left
                · intro w'
                  go_simp
                  with_reducible rfl
                rotate_left
                · simp only [Act.put, List.setIfInBounds_toArray, List.set_cons_zero, List.set_cons_succ, i64_w, i32_w]
                  rfl
                refine pure_ (i := 3) (N := some 37) (v := ?_) (a' := ?_) #[true, true, true, true, false, false, false, false, false, false, false, false, false, false, false, false, false, false, false, false, false, false, false] rfl rfl (any_of HT_.out (by kernel_rfl)) (fun _ _ _ h => h) (Or.inl ⟨by rfl, ?_⟩) ?_ ?_
                rotate_left
                · intro w'
                  go_simp
                  with_reducible rfl
                rotate_left
                · simp only [Act.put, List.setIfInBounds_toArray, List.set_cons_zero, List.set_cons_succ, i64_w, i32_w]
                  rfl
                refine pure_ (i := 5) (N := some 39) (v := ?_) (a' := ?_) #[true, true, true, true, false, true, false, false, false, false, false, false, false, false, false, false, false, false, false, false, false, false, false] rfl rfl (any_of HT_.out (by kernel_rfl)) (fun _ _ _ h => h) (Or.inl ⟨by rfl, ?_⟩) ?_ ?_
                rotate_left
                · intro w'
                  go_simp
                  with_reducible rfl
                rotate_left
                · simp only [Act.put, List.setIfInBounds_toArray, List.set_cons_zero, List.set_cons_succ, i64_w, i32_w]
                  rfl
                refine pure_ (i := 6) (N := some 40) (v := ?_) (a' := ?_) #[true, true, true, true, false, true, true, false, false, false, false, false, false, false, false, false, false, false, false, false, false, false, false] rfl rfl (any_of HT_.out (by kernel_rfl)) (fun _ _ _ h => h) (Or.inl ⟨by rfl, ?_⟩) ?_ ?_
                rotate_left
                · intro w'
                  go_simp
                  with_reducible rfl
                rotate_left
                · simp only [Act.put, List.setIfInBounds_toArray, List.set_cons_zero, List.set_cons_succ, i64_w, i32_w]
                  rfl
                refine pure_ (i := 7) (N := some 41) (v := ?_) (a' := ?_) #[true, true, true, true, false, true, true, true, false, false, false, false, false, false, false, false, false, false, false, false, false, false, false] rfl rfl (any_of HT_.out (by kernel_rfl)) (fun _ _ _ h => h) (Or.inl ⟨by rfl, ?_⟩) ?_ ?_
                rotate_left
                · intro w'
                  go_simp
                  with_reducible rfl
                rotate_left
                · simp only [Act.put, List.setIfInBounds_toArray, List.set_cons_zero, List.set_cons_succ, i64_w, i32_w]
                  rfl
                refine pure_ (i := 8) (N := some 42) (v := ?_) (a' := ?_) #[true, true, true, true, false, true, true, true, true, false, false, false, false, false, false, false, false, false, false, false, false, false, false] rfl rfl (any_of HT_.out (by kernel_rfl)) (fun _ _ _ h => h) (Or.inl ⟨by rfl, ?_⟩) ?_ ?_
                rotate_left
                · intro w'
                  go_simp
                  with_reducible rfl
                rotate_left
                · simp only [Act.put, List.setIfInBounds_toArray, List.set_cons_zero, List.set_cons_succ, i64_w, i32_w]
                  rfl
                refine pure_ (i := 9) (N := some 43) (v := ?_) (a' := ?_) #[true, true, true, true, false, true, true, true, true, true, false, false, false, false, false, false, false, false, false, false, false, false, false] rfl rfl (any_of HT_.out (by kernel_rfl)) (fun _ _ _ h => h) (Or.inl ⟨by rfl, ?_⟩) ?_ ?_
                rotate_left
                · intro w'
                  go_simp
                  with_reducible rfl
                rotate_left
                · simp only [Act.put, List.setIfInBounds_toArray, List.set_cons_zero, List.set_cons_succ, i64_w, i32_w]
                  rfl
                refine pure_ (i := 10) (N := some 44) (v := ?_) (a' := ?_) #[true, true, true, true, false, true, true, true, true, true, true, false, false, false, false, false, false, false, false, false, false, false, false] rfl rfl (any_of HT_.out (by kernel_rfl)) (fun _ _ _ h => h) (Or.inl ⟨by rfl, ?_⟩) ?_ ?_
                rotate_left
                · intro w'
                  go_simp
                  with_reducible rfl
                rotate_left
                · simp only [Act.put, List.setIfInBounds_toArray, List.set_cons_zero, List.set_cons_succ, i64_w, i32_w]
                  rfl
                refine pure_ (i := 11) (N := some 45) (v := ?_) (a' := ?_) #[true, true, true, true, false, true, true, true, true, true, true, true, false, false, false, false, false, false, false, false, false, false, false] rfl rfl (any_of HT_.out (by kernel_rfl)) (fun _ _ _ h => h) (Or.inl ⟨by rfl, ?_⟩) ?_ ?_
                rotate_left
                · intro w'
                  go_simp
                  with_reducible rfl
                rotate_left
                · simp only [Act.put, List.setIfInBounds_toArray, List.set_cons_zero, List.set_cons_succ, i64_w, i32_w]
                  rfl
                refine pure_ (i := 12) (N := some 46) (v := ?_) (a' := ?_) #[true, true, true, true, false, true, true, true, true, true, true, true, true, false, false, false, false, false, false, false, false, false, false] rfl rfl (any_of HT_.out (by kernel_rfl)) (fun _ _ _ h => h) (Or.inl ⟨by rfl, ?_⟩) ?_ ?_
                rotate_left
                · intro w'
                  go_simp
                  with_reducible rfl
                rotate_left
                · simp only [Act.put, List.setIfInBounds_toArray, List.set_cons_zero, List.set_cons_succ, i64_w, i32_w]
                  rfl
                refine pure_ (i := 13) (N := some 47) (v := ?_) (a' := ?_) #[true, true, true, true, false, true, true, true, true, true, true, true, true, true, false, false, false, false, false, false, false, false, false] rfl rfl (any_of HT_.out (by kernel_rfl)) (fun _ _ _ h => h) (Or.inl ⟨by rfl, ?_⟩) ?_ ?_
                rotate_left
                · intro w'
                  go_simp
                  with_reducible rfl
                rotate_left
                · simp only [Act.put, List.setIfInBounds_toArray, List.set_cons_zero, List.set_cons_succ, i64_w, i32_w]
                  rfl
                refine pure_ (i := 15) (N := some 49) (v := ?_) (a' := ?_) #[true, true, true, true, false, true, true, true, true, true, true, true, true, true, false, true, false, false, false, false, false, false, false] rfl rfl (any_of HT_.out (by kernel_rfl)) (fun _ _ _ h => h) (Or.inl ⟨by rfl, ?_⟩) ?_ ?_
                rotate_left
                · intro w'
                  go_simp
                  with_reducible rfl
                rotate_left
                · simp only [Act.put, List.setIfInBounds_toArray, List.set_cons_zero, List.set_cons_succ, i64_w, i32_w]
                  rfl
                refine pure_ (i := 16) (N := some 50) (v := ?_) (a' := ?_) #[true, true, true, true, false, true, true, true, true, true, true, true, true, true, false, true, true, false, false, false, false, false, false] rfl rfl (any_of HT_.out (by kernel_rfl)) (fun _ _ _ h => h) (Or.inl ⟨by rfl, ?_⟩) ?_ ?_
                rotate_left
                · intro w'
                  go_simp
                  with_reducible rfl
                rotate_left
                · simp only [Act.put, List.setIfInBounds_toArray, List.set_cons_zero, List.set_cons_succ, i64_w, i32_w]
                  rfl
                refine pure_ (i := 17) (N := some 51) (v := ?_) (a' := ?_) #[true, true, true, true, false, true, true, true, true, true, true, true, true, true, false, true, true, true, false, false, false, false, false] rfl rfl (any_of HT_.out (by kernel_rfl)) (fun _ _ _ h => h) (Or.inl ⟨by rfl, ?_⟩) ?_ ?_
                rotate_left
                · intro w'
                  go_simp
                  with_reducible rfl
                rotate_left
                · simp only [Act.put, List.setIfInBounds_toArray, List.set_cons_zero, List.set_cons_succ, i64_w, i32_w]
                  rfl
                refine take_ (i := 4) (N := some 38) (v := ?_) (a' := ?_) #[true, true, true, true, true, true, true, true, true, true, true, true, true, true, false, true, true, true, false, false, false, false, false] rfl rfl (take_ofW HT_.out HW_.out (by kernel_rfl)) (fun _ _ _ h => h) (Or.inl ⟨by rfl, ?_⟩) hHeld ?_ ?_
                rotate_left
                · rintro w' ⟨s0, s1, s2, s3, s4, s5, s6, s7, s8⟩
                  go_simp
                  with_reducible rfl
                rotate_left
                · simp only [Act.put, List.setIfInBounds_toArray, List.set_cons_zero, List.set_cons_succ, i64_w, i32_w]
                  rfl
                refine take_ (i := 14) (N := some 48) (v := ?_) (a' := ?_) #[true, true, true, true, true, true, true, true, true, true, true, true, true, true, true, true, true, true, false, false, false, false, false] rfl rfl (take_ofW HT_.out HW_.out (by kernel_rfl)) (fun _ _ _ h => h) (Or.inl ⟨by rfl, ?_⟩) hHeld ?_ ?_
                rotate_left
                · rintro w' ⟨s0, s1, s2, s3, s4, s5, s6, s7, s8⟩
                  go_simp
                  with_reducible rfl
                rotate_left
                · simp only [Act.put, List.setIfInBounds_toArray, List.set_cons_zero, List.set_cons_succ, i64_w, i32_w]
                  rfl
                refine take_ (i := 18) (N := some 52) (v := ?_) (a' := ?_) #[true, true, true, true, true, true, true, true, true, true, true, true, true, true, true, true, true, true, true, false, false, false, false] rfl rfl (take_ofW HT_.out HW_.out (by kernel_rfl)) (fun _ _ _ h => h) (Or.inl ⟨by rfl, ?_⟩) hHeld ?_ ?_
                rotate_left
                · rintro w' ⟨s0, s1, s2, s3, s4, s5, s6, s7, s8⟩
                  go_simp
                  with_reducible rfl
                rotate_left
                · simp only [Act.put, List.setIfInBounds_toArray, List.set_cons_zero, List.set_cons_succ, i64_w, i32_w]
                  rfl
                refine pure_ (i := 19) (N := some 53) (v := ?_) (a' := ?_) #[true, true, true, true, true, true, true, true, true, true, true, true, true, true, true, true, true, true, true, true, false, false, false] rfl rfl (any_of HT_.out (by kernel_rfl)) (fun _ _ _ h => h) (Or.inl ⟨by rfl, ?_⟩) ?_ ?_
                rotate_left
                · intro w'
                  go_simp
                  with_reducible rfl
                rotate_left
                · simp only [Act.put, List.setIfInBounds_toArray, List.set_cons_zero, List.set_cons_succ, i64_w, i32_w]
                  rfl
                refine pure_ (i := 20) (N := some 54) (v := ?_) (a' := ?_) #[true, true, true, true, true, true, true, true, true, true, true, true, true, true, true, true, true, true, true, true, true, false, false] rfl rfl (any_of HT_.out (by kernel_rfl)) (fun _ _ _ h => h) (Or.inl ⟨by rfl, ?_⟩) ?_ ?_
                rotate_left
                · intro w'
                  go_simp
                  with_reducible rfl
                rotate_left
                · simp only [Act.put, List.setIfInBounds_toArray, List.set_cons_zero, List.set_cons_succ, i64_w, i32_w]
                  rfl
                refine pure_ (i := 21) (N := some 55) (v := ?_) (a' := ?_) #[true, true, true, true, true, true, true, true, true, true, true, true, true, true, true, true, true, true, true, true, true, true, false] rfl rfl (any_of HT_.out (by kernel_rfl)) (fun _ _ _ h => h) (Or.inl ⟨by rfl, ?_⟩) ?_ ?_
                rotate_left
                · intro w'
                  go_simp
                  with_reducible rfl
                rotate_left
                · simp only [Act.put, List.setIfInBounds_toArray, List.set_cons_zero, List.set_cons_succ, i64_w, i32_w]
                  rfl
                refine one_ (i := 22) (N := none) #[true, true, true, true, true, true, true, true, true, true, true, true, true, true, true, true, true, true, true, true, true, true, true] rfl rfl (one_of HT_.out (by kernel_rfl)) (by decide) (fun K hK => ?_)
                have hs13 : w12.cell? ⟨gb78001, 0, none⟩ = some (.int .i64 0) := (blk_cell BK78001.out 0).trans rfl
                have hfs13 := blk_frozen BK78001.out 0
                have hs14 : w12.cell? ⟨gb78001, 1, none⟩ = some (.int .i64 0) := (blk_cell BK78001.out 1).trans rfl
                have hfs14 := blk_frozen BK78001.out 1
                have hs15 : w12.cell? ⟨gb78001, 2, none⟩ = some (.int .i64 0) := (blk_cell BK78001.out 2).trans rfl
                have hfs15 := blk_frozen BK78001.out 2
                have hs16 : w12.cell? ⟨gb78001, 3, none⟩ = some (.int .i64 0) := (blk_cell BK78001.out 3).trans rfl
                have hfs16 := blk_frozen BK78001.out 3
                refine skip_ (w1 := ?_) (by rfl) rfl ?_ ?_
                rotate_left
                · go_simp
                  rfl
                refine hK.out _ _ ⟨((cell_far (p := ⟨gb78001, _, none⟩) (by exact Nat.ne_of_lt (Nat.lt_of_lt_of_le (by have := World.block_lt_of_cell? _ _ hw78006_0; exact this) GW78001.out)) _).trans (((cell_far (p := ⟨gb78001, _, none⟩) (by exact Nat.ne_of_lt (Nat.lt_of_lt_of_le (by have := World.block_lt_of_cell? _ _ hw78006_0; exact this) GW78001.out)) _).trans (((cell_far (p := ⟨gb78001, _, none⟩) (by exact Nat.ne_of_lt (Nat.lt_of_lt_of_le (by have := World.block_lt_of_cell? _ _ hw78006_0; exact this) GW78001.out)) _).trans (((cell_far (p := ⟨gb78001, _, none⟩) (by exact Nat.ne_of_lt (Nat.lt_of_lt_of_le (by have := World.block_lt_of_cell? _ _ hw78006_0; exact this) GW78001.out)) _).trans hHeld.1))))))), ((cell_far (p := ⟨gb78001, _, none⟩) (by exact Nat.ne_of_lt (Nat.lt_of_lt_of_le (by have := World.block_lt_of_cell? _ _ hw78006_1; exact this) GW78001.out)) _).trans (((cell_far (p := ⟨gb78001, _, none⟩) (by exact Nat.ne_of_lt (Nat.lt_of_lt_of_le (by have := World.block_lt_of_cell? _ _ hw78006_1; exact this) GW78001.out)) _).trans (((cell_far (p := ⟨gb78001, _, none⟩) (by exact Nat.ne_of_lt (Nat.lt_of_lt_of_le (by have := World.block_lt_of_cell? _ _ hw78006_1; exact this) GW78001.out)) _).trans (((cell_far (p := ⟨gb78001, _, none⟩) (by exact Nat.ne_of_lt (Nat.lt_of_lt_of_le (by have := World.block_lt_of_cell? _ _ hw78006_1; exact this) GW78001.out)) _).trans hHeld.2.1))))))), ((cell_far (p := ⟨gb78001, _, none⟩) (by exact Nat.ne_of_lt (Nat.lt_of_lt_of_le (by have := World.block_lt_of_cell? _ _ hw78006_2; exact this) GW78001.out)) _).trans (((cell_far (p := ⟨gb78001, _, none⟩) (by exact Nat.ne_of_lt (Nat.lt_of_lt_of_le (by have := World.block_lt_of_cell? _ _ hw78006_2; exact this) GW78001.out)) _).trans (((cell_far (p := ⟨gb78001, _, none⟩) (by exact Nat.ne_of_lt (Nat.lt_of_lt_of_le (by have := World.block_lt_of_cell? _ _ hw78006_2; exact this) GW78001.out)) _).trans (((cell_far (p := ⟨gb78001, _, none⟩) (by exact Nat.ne_of_lt (Nat.lt_of_lt_of_le (by have := World.block_lt_of_cell? _ _ hw78006_2; exact this) GW78001.out)) _).trans hHeld.2.2.1))))))), ((cell_far (p := ⟨gb78001, _, none⟩) (by exact Nat.ne_of_lt (Nat.lt_of_lt_of_le (by have := World.block_lt_of_cell? _ _ hw78007_0; exact this) GW78001.out)) _).trans (((cell_far (p := ⟨gb78001, _, none⟩) (by exact Nat.ne_of_lt (Nat.lt_of_lt_of_le (by have := World.block_lt_of_cell? _ _ hw78007_0; exact this) GW78001.out)) _).trans (((cell_far (p := ⟨gb78001, _, none⟩) (by exact Nat.ne_of_lt (Nat.lt_of_lt_of_le (by have := World.block_lt_of_cell? _ _ hw78007_0; exact this) GW78001.out)) _).trans (((cell_far (p := ⟨gb78001, _, none⟩) (by exact Nat.ne_of_lt (Nat.lt_of_lt_of_le (by have := World.block_lt_of_cell? _ _ hw78007_0; exact this) GW78001.out)) _).trans hHeld.2.2.2.1))))))), ((cell_far (p := ⟨gb78001, _, none⟩) (by exact Nat.ne_of_lt (Nat.lt_of_lt_of_le (by have := World.block_lt_of_cell? _ _ hw78007_1; exact this) GW78001.out)) _).trans (((cell_far (p := ⟨gb78001, _, none⟩) (by exact Nat.ne_of_lt (Nat.lt_of_lt_of_le (by have := World.block_lt_of_cell? _ _ hw78007_1; exact this) GW78001.out)) _).trans (((cell_far (p := ⟨gb78001, _, none⟩) (by exact Nat.ne_of_lt (Nat.lt_of_lt_of_le (by have := World.block_lt_of_cell? _ _ hw78007_1; exact this) GW78001.out)) _).trans (((cell_far (p := ⟨gb78001, _, none⟩) (by exact Nat.ne_of_lt (Nat.lt_of_lt_of_le (by have := World.block_lt_of_cell? _ _ hw78007_1; exact this) GW78001.out)) _).trans hHeld.2.2.2.2.1))))))), ((cell_far (p := ⟨gb78001, _, none⟩) (by exact Nat.ne_of_lt (Nat.lt_of_lt_of_le (by have := World.block_lt_of_cell? _ _ hw78007_2; exact this) GW78001.out)) _).trans (((cell_far (p := ⟨gb78001, _, none⟩) (by exact Nat.ne_of_lt (Nat.lt_of_lt_of_le (by have := World.block_lt_of_cell? _ _ hw78007_2; exact this) GW78001.out)) _).trans (((cell_far (p := ⟨gb78001, _, none⟩) (by exact Nat.ne_of_lt (Nat.lt_of_lt_of_le (by have := World.block_lt_of_cell? _ _ hw78007_2; exact this) GW78001.out)) _).trans (((cell_far (p := ⟨gb78001, _, none⟩) (by exact Nat.ne_of_lt (Nat.lt_of_lt_of_le (by have := World.block_lt_of_cell? _ _ hw78007_2; exact this) GW78001.out)) _).trans hHeld.2.2.2.2.2.1))))))), ((cell_far (p := ⟨gb78001, _, none⟩) (by exact Nat.ne_of_lt (Nat.lt_of_lt_of_le (by have := World.block_lt_of_cell? _ _ hw78008_0; exact this) GW78001.out)) _).trans (((cell_far (p := ⟨gb78001, _, none⟩) (by exact Nat.ne_of_lt (Nat.lt_of_lt_of_le (by have := World.block_lt_of_cell? _ _ hw78008_0; exact this) GW78001.out)) _).trans (((cell_far (p := ⟨gb78001, _, none⟩) (by exact Nat.ne_of_lt (Nat.lt_of_lt_of_le (by have := World.block_lt_of_cell? _ _ hw78008_0; exact this) GW78001.out)) _).trans (((cell_far (p := ⟨gb78001, _, none⟩) (by exact Nat.ne_of_lt (Nat.lt_of_lt_of_le (by have := World.block_lt_of_cell? _ _ hw78008_0; exact this) GW78001.out)) _).trans hHeld.2.2.2.2.2.2.1))))))), ((cell_far (p := ⟨gb78001, _, none⟩) (by exact Nat.ne_of_lt (Nat.lt_of_lt_of_le (by have := World.block_lt_of_cell? _ _ hw78008_1; exact this) GW78001.out)) _).trans (((cell_far (p := ⟨gb78001, _, none⟩) (by exact Nat.ne_of_lt (Nat.lt_of_lt_of_le (by have := World.block_lt_of_cell? _ _ hw78008_1; exact this) GW78001.out)) _).trans (((cell_far (p := ⟨gb78001, _, none⟩) (by exact Nat.ne_of_lt (Nat.lt_of_lt_of_le (by have := World.block_lt_of_cell? _ _ hw78008_1; exact this) GW78001.out)) _).trans (((cell_far (p := ⟨gb78001, _, none⟩) (by exact Nat.ne_of_lt (Nat.lt_of_lt_of_le (by have := World.block_lt_of_cell? _ _ hw78008_1; exact this) GW78001.out)) _).trans hHeld.2.2.2.2.2.2.2.1))))))), ((cell_far (p := ⟨gb78001, _, none⟩) (by exact Nat.ne_of_lt (Nat.lt_of_lt_of_le (by have := World.block_lt_of_cell? _ _ hw78008_2; exact this) GW78001.out)) _).trans (((cell_far (p := ⟨gb78001, _, none⟩) (by exact Nat.ne_of_lt (Nat.lt_of_lt_of_le (by have := World.block_lt_of_cell? _ _ hw78008_2; exact this) GW78001.out)) _).trans (((cell_far (p := ⟨gb78001, _, none⟩) (by exact Nat.ne_of_lt (Nat.lt_of_lt_of_le (by have := World.block_lt_of_cell? _ _ hw78008_2; exact this) GW78001.out)) _).trans (((cell_far (p := ⟨gb78001, _, none⟩) (by exact Nat.ne_of_lt (Nat.lt_of_lt_of_le (by have := World.block_lt_of_cell? _ _ hw78008_2; exact this) GW78001.out)) _).trans hHeld.2.2.2.2.2.2.2.2)))))))⟩ (fun hHeld => ?_)
                clear hK K
                refine done_ (done_of HT_.out (by kernel_rfl)) ?_
                try go_wp2
                refine bodyPost_ret (results_cell_row rfl _ _ gb78001 60 #[.int .i64 x3_1, .int .i64 ((rd_T47 l0 0).f0), .int .i64 (wrap64 (x4_1 - x3_1)), .int .i64 (wrap64 ((wrap64 (((rd_T47 l0 ji9).f0) - ((rd_T47 l0 0).f0))) + 1))] (0, 0) _ rfl (by refine blk_put (cs := #[.int .i64 x3_1, .int .i64 ((rd_T47 l0 0).f0), .int .i64 (wrap64 (x4_1 - x3_1)), .int .i64 0]) ?_ 3 _ rfl; (with_reducible repeat (first | refine blk_drewN ?_ _ | refine blk_drew ?_ | refine blk_alloc ?_ _)); refine blk_put (cs := #[.int .i64 x3_1, .int .i64 ((rd_T47 l0 0).f0), .int .i64 0, .int .i64 0]) ?_ 2 _ rfl; (with_reducible repeat (first | refine blk_drewN ?_ _ | refine blk_drew ?_ | refine blk_alloc ?_ _)); refine blk_put (cs := #[.int .i64 x3_1, .int .i64 0, .int .i64 0, .int .i64 0]) ?_ 1 _ rfl; (with_reducible repeat (first | refine blk_drewN ?_ _ | refine blk_drew ?_ | refine blk_alloc ?_ _)); refine blk_put (cs := #[.int .i64 0, .int .i64 0, .int .i64 0, .int .i64 0]) ?_ 0 _ rfl; (with_reducible repeat (first | refine blk_drewN ?_ _ | refine blk_drew ?_ | refine blk_alloc ?_ _)); exact BK78001.out) Try.underlying60 rfl (by kernel_rfl)) rfl ?_
                exact ⟨by rfl, by repeat (with_reducible first | exact HB.out | refine below_set ?_ GE78001.out)⟩
              · rw [if_neg c11] at H
                exact absurd H (by simp)
            · rw [if_neg c10] at H
              exact absurd H (by simp)
          · rw [if_neg c8] at H
            exact absurd H (by simp)
  · rw [if_neg c2] at H
    exact absurd H (by simp)


noncomputable def spec_ChangedBoxes.l0 : Nat → List S60 → List (List S47) → Int → Option ((List S60))
  | 0, _, _, _ => none
  | k + 1, x5, x6, x7 => if x7 < (x6.length : Int) then (if 0 ≤ x7 then ((spec_boundsOf.f k (rd_L13 x6 x7)).bind fun bt33014 => (if x5.length < 4398046511104 then (spec_ChangedBoxes.l0 k (x5 ++ [(⟨bt33014.1, bt33014.2.1, bt33014.2.2.1, bt33014.2.2.2⟩ : S60)]) x6 (wrap64 (x7 + 1))) else none)) else none) else (some x5)
noncomputable def spec_ChangedBoxes.f (k : Nat) (a0_0 : Int) (a0_1 : Int) (a0_2 : Int) (l0_3 : List Int) (a1_0 : Int) (a1_1 : Int) (a1_2 : Int) (l1_3 : List Int) : Option ((List S60)) := (spec_sameShape.f k a0_0 a0_1 a0_2 l0_3 a1_0 a1_1 a1_2 l1_3).bind fun t33006 => (if t33006 = true then ((spec_changed.f k a0_0 a0_1 a0_2 l0_3 a1_0 a1_1 a1_2 l1_3).bind fun t33007 => ((spec_parts.f k t33007).bind fun t33010 => (spec_ChangedBoxes.l0 k (([] : List S60)) t33010 0))) else (some ([] : List S60)))
theorem spec_ChangedBoxes.mono_l : ∀ k, (∀ y0 y1 y2, LeO (spec_ChangedBoxes.l0 k y0 y1 y2) (spec_ChangedBoxes.l0 (k + 1) y0 y1 y2))
  | 0 => fun _ _ _ r h => by simp [spec_ChangedBoxes.l0] at h
  | k + 1 => by
    have ih0 := spec_ChangedBoxes.mono_l k
    · intro y0 y1 y2
      unfold spec_ChangedBoxes.l0
      repeat' first | (with_reducible exact ih0 _ _ _) | (with_reducible exact spec_boundsOf.mono _ _) | (with_reducible exact LeO.refl _) | (with_reducible refine LeO.ite ?_ ?_) | (with_reducible refine LeO.bind ?_ (fun _ => ?_))
theorem spec_ChangedBoxes.mono : ∀ a0 a1 a2 a3 a4 a5 a6 a7 k, LeO (spec_ChangedBoxes.f k a0 a1 a2 a3 a4 a5 a6 a7) (spec_ChangedBoxes.f (k + 1) a0 a1 a2 a3 a4 a5 a6 a7) := by
  intro a0 a1 a2 a3 a4 a5 a6 a7 k
  have ih0 := spec_ChangedBoxes.mono_l k
  unfold spec_ChangedBoxes.f
  repeat' first | (with_reducible exact ih0 _ _ _) | (with_reducible exact spec_changed.mono _ _ _ _ _ _ _ _ _) | (with_reducible exact spec_parts.mono _ _) | (with_reducible exact spec_sameShape.mono _ _ _ _ _ _ _ _ _) | (with_reducible exact LeO.refl _) | (with_reducible refine LeO.ite ?_ ?_) | (with_reducible refine LeO.bind ?_ (fun _ => ?_))
set_option maxHeartbeats 8000000 in
set_option maxRecDepth 100000 in
theorem spec_ChangedBoxes.calls (k : Nat) (a0_0 : Int) (a0_1 : Int) (a0_2 : Int) (A0_3 : Option Addr) (c0_3 : Nat) (l0_3 : List Int) (a1_0 : Int) (a1_1 : Int) (a1_2 : Int) (A1_3 : Option Addr) (c1_3 : Nat) (l1_3 : List Int) (r : List S60) (w : World) (hr0_3 : Kd.C (Kd.int .i64) w A0_3 l0_3.length l0_3) (hc0_3 : l0_3.length ≤ c0_3) (hr1_3 : Kd.C (Kd.int .i64) w A1_3 l1_3.length l1_3) (hc1_3 : l1_3.length ≤ c1_3) (h : spec_ChangedBoxes.f k a0_0 a0_1 a0_2 l0_3 a1_0 a1_1 a1_2 l1_3 = some r) :
    Calls Try.prog 32 #[.agg #[.int .i64 a0_0, .int .i64 a0_1, .int .i64 a0_2, .slice A0_3 l0_3.length c0_3], .agg #[.int .i64 a1_0, .int .i64 a1_1, .int .i64 a1_2, .slice A1_3 l1_3.length c1_3]] w fun e w' => ∃ v0_ : Value, e = .returned v0_ ∧ Kd.R k60 60 w' w.heap.size (fun _ => True) v0_ r ∧ Below w.heap.size w w' := by
  have hu28 := Try.underlying28
  have HR0_3 := Aside0.mk hr0_3
  have HC0_3 := Aside0.mk hc0_3
  clear hr0_3 hc0_3
  have HR1_3 := Aside0.mk hr1_3
  have HC1_3 := Aside0.mk hc1_3
  clear hr1_3 hc1_3
  have HB := Aside0.mk (Below.refl w.heap.size w)
  have H : ((spec_sameShape.f k a0_0 a0_1 a0_2 l0_3 a1_0 a1_1 a1_2 l1_3).bind fun t33006 => (if t33006 = true then ((spec_changed.f k a0_0 a0_1 a0_2 l0_3 a1_0 a1_1 a1_2 l1_3).bind fun t33007 => ((spec_parts.f k t33007).bind fun t33010 => (spec_ChangedBoxes.l0 k (([] : List S60)) t33010 0))) else (some ([] : List S60)))) = some r := h
  clear h
  obtain ⟨y33003, hy33003⟩ : ∃ y_ : List (S60), y_ = (([] : List S60)) := ⟨_, rfl⟩
  replace H : ((spec_sameShape.f k a0_0 a0_1 a0_2 l0_3 a1_0 a1_1 a1_2 l1_3).bind fun t33006 => (if t33006 = true then ((spec_changed.f k a0_0 a0_1 a0_2 l0_3 a1_0 a1_1 a1_2 l1_3).bind fun t33007 => ((spec_parts.f k t33007).bind fun t33010 => (spec_ChangedBoxes.l0 k y33003 t33010 0))) else (some ([] : List S60)))) = some r := by (rw [hy33003]; with_reducible exact H)
  have Ny33003 := Aside0.mk hy33003
  clear hy33003
  replace H := Option.bind_eq_some_iff.mp H
  obtain ⟨t33006, A30, H⟩ := H
  replace H : (if t33006 = true then ((spec_changed.f k a0_0 a0_1 a0_2 l0_3 a1_0 a1_1 a1_2 l1_3).bind fun t33007 => ((spec_parts.f k t33007).bind fun t33010 => (spec_ChangedBoxes.l0 k y33003 t33010 0))) else (some ([] : List S60))) = some r := H
  have A3 := Aside0.mk A30
  clear A30
  by_cases c4 : t33006 = true
  · subst c4
    have H1 : ((spec_changed.f k a0_0 a0_1 a0_2 l0_3 a1_0 a1_1 a1_2 l1_3).bind fun t33007 => ((spec_parts.f k t33007).bind fun t33010 => (spec_ChangedBoxes.l0 k y33003 t33010 0))) = some r := by rw [if_pos rfl] at H; exact H
    clear H
    have H := H1
    clear H1
    replace H := Option.bind_eq_some_iff.mp H
    obtain ⟨t33007, A50, H⟩ := H
    replace H : ((spec_parts.f k t33007).bind fun t33010 => (spec_ChangedBoxes.l0 k y33003 t33010 0)) = some r := H
    have A5 := Aside0.mk A50
    clear A50
    replace H := Option.bind_eq_some_iff.mp H
    obtain ⟨t33010, A60, H⟩ := H
    replace H : (spec_ChangedBoxes.l0 k y33003 t33010 0) = some r := H
    have A6 := Aside0.mk A60
    clear A60
    have H' := Aside0.mk H
    clear H
    go_enter Try.func32, Try.ntmps32
    go_wp2_with (first | ((with_reducible refine gate_dst (N := 2) rfl ?_); refine box_event ?hg (N := 2) ?hd (cs := #[.int .i64 a0_0, .int .i64 a0_1, .int .i64 a0_2, .slice A0_3 l0_3.length c0_3]) (t := 28) ?hr ?_; (case hd => rfl); (case hg => rfl); (case hr => (go_simp; done)); intro gb33001 hg w7 hbox hb; have n0_ := Aside0.mk (below_step HB.out hb); have n1_ := Aside0.mk (hbox); have n2_ := Aside0.mk ((by rw [hg]; exact (below_size HB.out) : w.heap.size ≤ gb33001)); have n3_ := Aside0.mk ((by rw [hg]; exact (below_size HB.out) : w.heap.size ≤ gb33001)); clear HB; have HB := n0_; have BK33001 := n1_; have GW33001 := n2_; have GE33001 := n3_; clear n0_ n1_ n2_ n3_; clear hb hbox hg) | ((with_reducible refine gate_dst (N := 3) rfl ?_); refine box_event ?hg (N := 3) ?hd (cs := #[.int .i64 a1_0, .int .i64 a1_1, .int .i64 a1_2, .slice A1_3 l1_3.length c1_3]) (t := 28) ?hr ?_; (case hd => rfl); (case hg => rfl); (case hr => (go_simp; done)); intro gb33002 hg w8 hbox hb; have n0_ := Aside0.mk (blk_below BK33001.out hb); have n1_ := Aside0.mk (below_step HB.out hb); have n2_ := Aside0.mk (hbox); have n3_ := Aside0.mk ((by rw [hg]; exact (below_size HB.out) : w.heap.size ≤ gb33002)); have n4_ := Aside0.mk ((by rw [hg]; exact (below_size HB.out) : w.heap.size ≤ gb33002)); have n5_ := Aside0.mk ((by rw [hg]; exact Nat.ne_of_lt (blk_lt BK33001.out) : gb33001 ≠ gb33002)); have n6_ := Aside0.mk ((by rw [hg]; exact Nat.ne_of_gt (blk_lt BK33001.out) : gb33002 ≠ gb33001)); clear BK33001; clear HB; have BK33001 := n0_; have HB := n1_; have BK33002 := n2_; have GW33002 := n3_; have GE33002 := n4_; have NB33001_33002 := n5_; have NB33002_33001 := n6_; clear n0_ n1_ n2_ n3_ n4_ n5_ n6_; clear hb hbox hg) | ((with_reducible refine gate_dst (N := 8) rfl ?_); refine Kd.R_lit k60 _ 60 ?hg (N := 8) ?hd (xs := ([] : List S60)) (inner := []) (ok := fun _ => True) (okp := fun _ => True) ?hr ?hp (fun _ hk => hk) trivial (Below.refl _ _) (Nat.le_refl _) (by simp) ?_; (case hd => rfl); (case hg => rfl); (case hr => (go_simp; done)); (case hp => exact (Reps.none _ _)); intro v33004 w9 ho10 hb hg_ hnew_; clear hg_ hnew_; (rw [← Ny33003.out] at ho10); have n0_ := Aside0.mk (Kd.R_lower ho10 (below_size HB.out)); have n1_ := Aside0.mk (blk_below BK33001.out hb); have n2_ := Aside0.mk (blk_below BK33002.out hb); have n3_ := Aside0.mk (below_step HB.out hb); clear BK33001; clear BK33002; clear HB; have HO33005 := n0_; have BK33001 := n1_; have BK33002 := n2_; have HB := n3_; clear n0_ n1_ n2_ n3_; clear hb ho10; have hnb11 := NB33001_33002.out; have hnc11 := NB33002_33001.out; have hcz12_0 : w9.cell? ⟨gb33001, 0, none⟩ = some (.int .i64 a0_0) := (blk_cell BK33001.out 0).trans rfl; have hcz12_1 : w9.cell? ⟨gb33001, 1, none⟩ = some (.int .i64 a0_1) := (blk_cell BK33001.out 1).trans rfl; have hcz12_2 : w9.cell? ⟨gb33001, 2, none⟩ = some (.int .i64 a0_2) := (blk_cell BK33001.out 2).trans rfl; have hcz12_3 : w9.cell? ⟨gb33001, 3, none⟩ = some (.slice A0_3 l0_3.length c0_3) := (blk_cell BK33001.out 3).trans rfl; have hfz12_0 := blk_frozen BK33001.out 0; have hfz12_1 := blk_frozen BK33001.out 1; have hfz12_2 := blk_frozen BK33001.out 2; have hfz12_3 := blk_frozen BK33001.out 3; have hcz13_0 : w9.cell? ⟨gb33002, 0, none⟩ = some (.int .i64 a1_0) := (blk_cell BK33002.out 0).trans rfl; have hcz13_1 : w9.cell? ⟨gb33002, 1, none⟩ = some (.int .i64 a1_1) := (blk_cell BK33002.out 1).trans rfl; have hcz13_2 : w9.cell? ⟨gb33002, 2, none⟩ = some (.int .i64 a1_2) := (blk_cell BK33002.out 2).trans rfl; have hcz13_3 : w9.cell? ⟨gb33002, 3, none⟩ = some (.slice A1_3 l1_3.length c1_3) := (blk_cell BK33002.out 3).trans rfl; have hfz13_0 := blk_frozen BK33002.out 0; have hfz13_1 := blk_frozen BK33002.out 1; have hfz13_2 := blk_frozen BK33002.out 2; have hfz13_3 := blk_frozen BK33002.out 3) | ((with_reducible refine gate_callee (f := 45) rfl ?_); refine goesL_ (some 11) rfl rfl Try.func45 (by kernel_rfl) rfl #[.agg #[.int .i64 a0_0, .int .i64 a0_1, .int .i64 a0_2, .slice A0_3 l0_3.length c0_3], .agg #[.int .i64 a1_0, .int .i64 a1_1, .int .i64 a1_2, .slice A1_3 l1_3.length c1_3]] rfl (by (try simp only [List.map_toArray, List.map_cons, List.map_nil]); rfl) ?_; (with_reducible refine (spec_sameShape.calls k a0_0 a0_1 a0_2 _ _ l0_3 a1_0 a1_1 a1_2 _ _ l1_3 true _ ?side1 ?side2 ?side3 ?side4 A3.out).mono ?_); (case side1 => repeat (exact (Kd.C_below HR0_3.out HB.out))); (case side2 => exact HC0_3.out); (case side3 => repeat (exact (Kd.C_below HR1_3.out HB.out))); (case side4 => exact HC1_3.out); rintro e w14 ⟨rfl, hb⟩; refine ⟨_, rfl, ?_⟩; have n0_ := Aside0.mk (Kd.R_below HO33005.out hb); have n1_ := Aside0.mk (blk_below BK33001.out hb); have n2_ := Aside0.mk (blk_below BK33002.out hb); have n3_ := Aside0.mk (below_step HB.out hb); clear HO33005; clear BK33001; clear BK33002; clear HB; have HO33005 := n0_; have BK33001 := n1_; have BK33002 := n2_; have HB := n3_; clear n0_ n1_ n2_ n3_; (try clear hb); have hcz15_0 : w14.cell? ⟨gb33001, 0, none⟩ = some (.int .i64 a0_0) := (blk_cell BK33001.out 0).trans rfl; have hcz15_1 : w14.cell? ⟨gb33001, 1, none⟩ = some (.int .i64 a0_1) := (blk_cell BK33001.out 1).trans rfl; have hcz15_2 : w14.cell? ⟨gb33001, 2, none⟩ = some (.int .i64 a0_2) := (blk_cell BK33001.out 2).trans rfl; have hcz15_3 : w14.cell? ⟨gb33001, 3, none⟩ = some (.slice A0_3 l0_3.length c0_3) := (blk_cell BK33001.out 3).trans rfl; have hfz15_0 := blk_frozen BK33001.out 0; have hfz15_1 := blk_frozen BK33001.out 1; have hfz15_2 := blk_frozen BK33001.out 2; have hfz15_3 := blk_frozen BK33001.out 3; have hcz16_0 : w14.cell? ⟨gb33002, 0, none⟩ = some (.int .i64 a1_0) := (blk_cell BK33002.out 0).trans rfl; have hcz16_1 : w14.cell? ⟨gb33002, 1, none⟩ = some (.int .i64 a1_1) := (blk_cell BK33002.out 1).trans rfl; have hcz16_2 : w14.cell? ⟨gb33002, 2, none⟩ = some (.int .i64 a1_2) := (blk_cell BK33002.out 2).trans rfl; have hcz16_3 : w14.cell? ⟨gb33002, 3, none⟩ = some (.slice A1_3 l1_3.length c1_3) := (blk_cell BK33002.out 3).trans rfl; have hfz16_0 := blk_frozen BK33002.out 0; have hfz16_1 := blk_frozen BK33002.out 1; have hfz16_2 := blk_frozen BK33002.out 2; have hfz16_3 := blk_frozen BK33002.out 3) | ((with_reducible refine gate_callee (f := 46) rfl ?_); refine goesL_ (some 15) rfl rfl Try.func46 (by kernel_rfl) rfl #[.agg #[.int .i64 a0_0, .int .i64 a0_1, .int .i64 a0_2, .slice A0_3 l0_3.length c0_3], .agg #[.int .i64 a1_0, .int .i64 a1_1, .int .i64 a1_2, .slice A1_3 l1_3.length c1_3]] rfl (by (try simp only [List.map_toArray, List.map_cons, List.map_nil]); rfl) ?_; (with_reducible refine (spec_changed.calls k a0_0 a0_1 a0_2 _ _ l0_3 a1_0 a1_1 a1_2 _ _ l1_3 t33007 _ ?side1 ?side2 ?side3 ?side4 A5.out).mono ?_); (case side1 => repeat (exact (Kd.C_below HR0_3.out HB.out))); (case side2 => exact HC0_3.out); (case side3 => repeat (exact (Kd.C_below HR1_3.out HB.out))); (case side4 => exact HC1_3.out); rintro e w17 ⟨v33008, rfl, ho0, hb⟩; refine ⟨_, rfl, ?_⟩; have n0_ := Aside0.mk (Kd.R_below HO33005.out hb); have n1_ := Aside0.mk (Kd.R_lower ho0 (below_size HB.out)); have n2_ := Aside0.mk (blk_below BK33001.out hb); have n3_ := Aside0.mk (blk_below BK33002.out hb); have n4_ := Aside0.mk (below_step HB.out hb); clear HO33005; clear BK33001; clear BK33002; clear HB; have HO33005 := n0_; have HO33009 := n1_; have BK33001 := n2_; have BK33002 := n3_; have HB := n4_; clear n0_ n1_ n2_ n3_ n4_; (try clear hb); (try clear ho0); obtain ⟨Ao18, co18, eo18⟩ := Kd.R_slice HO33009.out; subst eo18) | ((with_reducible refine gate_callee (f := 76) rfl ?_); refine goesL_ (some 16) rfl rfl Try.func76 (by kernel_rfl) rfl #[.slice Ao18 t33007.length co18] rfl (by (try simp only [List.map_toArray, List.map_cons, List.map_nil]); rfl) ?_; (with_reducible refine (spec_parts.calls k _ _ t33007 t33010 _ ?side1 ?side2 A6.out).mono ?_); (case side1 => repeat (exact (Kd.R_reads' HO33009.out).2.2)); (case side2 => exact (Kd.R_reads' HO33009.out).2.1); rintro e w19 ⟨v33011, rfl, ho0, hb⟩; refine ⟨_, rfl, ?_⟩; have n0_ := Aside0.mk (Kd.R_below HO33005.out hb); have n1_ := Aside0.mk (Kd.R_below HO33009.out hb); have n2_ := Aside0.mk (Kd.S_lower (Kd.S_new' ho0 (Kd.R_lt HO33009.out)) (below_size HB.out)); have n3_ := Aside0.mk (blk_below BK33001.out hb); have n4_ := Aside0.mk (blk_below BK33002.out hb); have n5_ := Aside0.mk (below_step HB.out hb); clear HO33005; clear HO33009; clear BK33001; clear BK33002; clear HB; have HO33005 := n0_; have HO33009 := n1_; have HO33012 := n2_; have BK33001 := n3_; have BK33002 := n4_; have HB := n5_; clear n0_ n1_ n2_ n3_ n4_ n5_; (try clear hb); (try clear ho0)))
    go_loopg [5, 7] k (fun kq v5 v7 w' => ∃ (x5_1 : List S60) (x7_1 : Int), v7 = .int .i64 x7_1 ∧ Aside0 (spec_ChangedBoxes.l0 kq x5_1 t33010 x7_1 = some r) ∧ Aside0 (kq ≤ k) ∧ Aside0 (Kd.R k60 60 w' w.heap.size (fun _ => True) v5 x5_1) ∧ Aside0 (Kd.S (Kd.slice 47 k47) 26 w' w.heap.size (fun _ => True) v33011 t33010) ∧ Aside0 (w'.heap[gb33001]? = some (.cells #[.int .i64 a0_0, .int .i64 a0_1, .int .i64 a0_2, (.slice A0_3 l0_3.length c0_3)] 28 (0, 0))) ∧ Aside0 (w'.heap[gb33002]? = some (.cells #[.int .i64 a1_0, .int .i64 a1_1, .int .i64 a1_2, (.slice A1_3 l1_3.length c1_3)] 28 (0, 0))) ∧ Aside0 (Below w.heap.size w w'))
    case atStart => exact ⟨(y33003), (0), (by rfl), H', ⟨Nat.le_refl _⟩, ⟨by (with_reducible repeat (first | apply Kd.R_alloc | apply Kd.R_drewN | apply Kd.R_drew)); exact HO33005.out⟩, ⟨by (with_reducible repeat (first | apply Kd.S_alloc | apply Kd.S_drewN | apply Kd.S_drew)); exact Kd.S_mono HO33012.out (fun _ hk => trivial)⟩, ⟨by (with_reducible repeat (first | refine blk_drewN ?_ _ | refine blk_drew ?_ | refine blk_alloc ?_ _)); exact BK33001.out⟩, ⟨by (with_reducible repeat (first | refine blk_drewN ?_ _ | refine blk_drew ?_ | refine blk_alloc ?_ _)); exact BK33002.out⟩, ⟨by exact HB.out⟩⟩
    case round =>
      clear H'
      try clear c1
      try clear p2
      try clear c3
      try clear c4
      try clear c7
      try clear c11
      try clear hcz12_0
      try clear hcz12_1
      try clear hcz12_2
      try clear hcz12_3
      try clear hcz13_0
      try clear hcz13_1
      try clear hcz13_2
      try clear hcz13_3
      try clear hcz15_0
      try clear hcz15_1
      try clear hcz15_2
      try clear hcz15_3
      try clear hcz16_0
      try clear hcz16_1
      try clear hcz16_2
      try clear hcz16_3
      try clear hfz12_0
      try clear hfz12_1
      try clear hfz12_2
      try clear hfz12_3
      try clear hfz13_0
      try clear hfz13_1
      try clear hfz13_2
      try clear hfz13_3
      try clear hfz15_0
      try clear hfz15_1
      try clear hfz15_2
      try clear hfz15_3
      try clear hfz16_0
      try clear hfz16_1
      try clear hfz16_2
      try clear hfz16_3
      obtain ⟨x5_1, x7_1, rfl, HA, HK1, HO_5, HO_6, BK33001, BK33002, HB⟩ := hrel
      cases gk with
      | zero => exact absurd HA.out (by simp [spec_ChangedBoxes.l0])
      | succ k1 =>
        have H := HA.out
        clear HA
        simp only [spec_ChangedBoxes.l0] at H
        by_cases c20 : x7_1 < (t33010.length : Int)
        · rw [if_pos c20] at H
          have c20b0 : decide (x7_1 < (t33010.length : Int)) = true := decide_eq_true c20
          clear c20
          by_cases c21 : 0 ≤ x7_1
          · rw [if_pos c21] at H
            have c21b0 : decide (0 ≤ x7_1) = true := decide_eq_true c21
            clear c21
            replace H := Option.bind_eq_some_iff.mp H
            obtain ⟨⟨t33014, t33015, t33016, t33017⟩, A220, H⟩ := H
            replace H : (if x5_1.length < 4398046511104 then (spec_ChangedBoxes.l0 k1 (x5_1 ++ [(⟨t33014, t33015, t33016, t33017⟩ : S60)]) t33010 (wrap64 (x7_1 + 1))) else none) = some r := H
            have A22 := Aside0.mk A220
            clear A220
            by_cases c23 : x5_1.length < 4398046511104
            · rw [if_pos c23] at H
              have LMc23 := Aside0.mk c23
              clear c23
              obtain ⟨y33018, hy33018⟩ : ∃ y_ : List (S60), y_ = (x5_1 ++ [(⟨t33014, t33015, t33016, t33017⟩ : S60)]) := ⟨_, rfl⟩
              replace H : (spec_ChangedBoxes.l0 k1 y33018 t33010 (wrap64 (x7_1 + 1))) = some r := by (rw [hy33018]; with_reducible exact H)
              have Ny33018 := Aside0.mk hy33018
              clear hy33018
              have H' := Aside0.mk H
              clear H
              obtain ⟨Ao24, co24, eo24⟩ := Kd.S_slice HO_6.out
              subst eo24
              have p33013 : 0 ≤ (x7_1 : Int) := of_decide_eq_true (by (with_reducible assumption))
              have q33013 : x7_1 < (t33010.length : Int) := of_decide_eq_true (by (with_reducible assumption))
              obtain ⟨ad33013, A33013_0, c33013_0, e33013, hx33013_0, hl33013_0, hi33013_0⟩ := at_L13 (Kd.S_reads' HO_6.out).2.2 x7_1 p33013 q33013
              cases e33013
              obtain ⟨ce33013, hce33013, hMe33013, hcc33013⟩ := Kd.S_get HO_6.out [] x7_1 p33013 q33013
              obtain ⟨ve33013_0, rfl, ge33013_0⟩ := hMe33013
              have hv33013_0 := hcc33013 0 _ rfl
              rw [Nat.add_zero, show (Kd.slice 47 k47).sz = 1 from rfl, Nat.mul_one] at hv33013_0
              replace hv33013_0 := Option.some.inj (hv33013_0.symm.trans hx33013_0)
              rw [hv33013_0] at ge33013_0
              have HL33013_0 := Aside0.mk (show Kd.R k47 47 _ _ _ _ (rd_L13 t33010 x7_1) from ge33013_0)
              clear hv33013_0 ge33013_0 hcc33013 hce33013
              have HR33013_0 := Aside0.mk hi33013_0
              have HC33013_0 := Aside0.mk hl33013_0
              clear hi33013_0 hl33013_0
              replace p33013 := eq_true p33013
              replace q33013 := eq_true q33013
              go_wp2_with (first | ((with_reducible refine gate_callee (f := 77) rfl ?_); refine goesL_ (some 28) rfl rfl Try.func77 (by kernel_rfl) rfl #[.slice A33013_0 (rd_L13 t33010 x7_1).length c33013_0] rfl (by (try simp only [List.map_toArray, List.map_cons, List.map_nil]); rfl) ?_; (with_reducible refine (spec_boundsOf.calls k1 _ _ (rd_L13 t33010 x7_1) t33014 t33015 t33016 t33017 _ ?side1 ?side2 A22.out).mono ?_); (case side1 => repeat (exact HR33013_0.out)); (case side2 => exact HC33013_0.out); rintro e w25 ⟨rfl, hb⟩; refine ⟨_, rfl, ?_⟩; have n0_ := Aside0.mk (Kd.R_below HO_5.out hb); have n1_ := Aside0.mk (Kd.S_below HO_6.out hb); have n2_ := Aside0.mk (Kd.R_below HL33013_0.out hb); have n3_ := Aside0.mk (blk_below BK33001.out hb); have n4_ := Aside0.mk (blk_below BK33002.out hb); have n5_ := Aside0.mk (Kd.C_below HR33013_0.out hb); have n6_ := Aside0.mk (below_step HB.out hb); clear HO_5; clear HO_6; clear HL33013_0; clear BK33001; clear BK33002; clear HR33013_0; clear HB; have HO_5 := n0_; have HO_6 := n1_; have HL33013_0 := n2_; have BK33001 := n3_; have BK33002 := n4_; have HR33013_0 := n5_; have HB := n6_; clear n0_ n1_ n2_ n3_ n4_ n5_ n6_; (try clear hb)) | ((with_reducible refine gate_builtin (b := .append) (xs := #[.tmp 23, .tmp 29]) rfl ?_); at_builtin; refine Kd.R_append k60 (w0 := w) w.heap.size rfl (.tmp 23) (.tmp 29) 53 60 (.agg #[(.int .i64 0), (.int .i64 0), (.int .i64 0), (.int .i64 0)]) 32 rfl Try.underlying53 info60 rfl (by decide) (by omega) u5 x5_1 (⟨t33014, t33015, t33016, t33017⟩ : S60) [.int .i64 t33014, .int .i64 t33015, .int .i64 t33016, .int .i64 t33017] (fun _ => True) (fun _ => False) rfl rfl ?aP (fun _ hk => hk.elim) ?aF ?aO ?aB ?aS ?aL ?_; (case aP => exact k60_mkM _ _ _ (⟨t33014, t33015, t33016, t33017⟩ : S60)); (case aB => exact HB.out); (case aF => exact (fun _ _ => trivial)); (case aO => exact HO_5.out); (case aS => exact (below_size HB.out)); (case aL => have := LMc23.out; omega); intro v33019 w26 ho hb hg hat; rw [← Ny33018.out] at ho; have n0_ := Aside0.mk (Kd.S_over' HO_6.out (Kd.R_typed HO_5.out) (by decide) hg); have n1_ := Aside0.mk (blk_grown (g := gb33001) (o := .cells #[.int .i64 a0_0, .int .i64 a0_1, .int .i64 a0_2, .slice A0_3 l0_3.length c0_3] 28 (0, 0)) BK33001.out hg (Kd.R_ne HO_5.out BK33001.out (by decide))); have n2_ := Aside0.mk (blk_grown (g := gb33002) (o := .cells #[.int .i64 a1_0, .int .i64 a1_1, .int .i64 a1_2, .slice A1_3 l1_3.length c1_3] 28 (0, 0)) BK33002.out hg (Kd.R_ne HO_5.out BK33002.out (by decide))); have n3_ := Aside0.mk (Kd.R_over' HL33013_0.out (Kd.R_typed HO_5.out) (by decide) hg); have n4_ := Aside0.mk (hb); have n5_ := Aside0.mk (ho); clear HO_6; clear BK33001; clear BK33002; clear HL33013_0; clear HB; clear HO_5; have HO_6 := n0_; have BK33001 := n1_; have BK33002 := n2_; have HL33013_0 := n3_; have HB := n4_; have HO33020 := n5_; clear n0_ n1_ n2_ n3_ n4_ n5_; clear ho hb hg hat))
              go_roundg k1
              case measure => have := HK1.out; omega
              case rel => exact ⟨(y33018), (wrap64 (x7_1 + 1)), (by rfl), H', ⟨by have := HK1.out; omega⟩, ⟨by (with_reducible repeat (first | apply Kd.R_alloc | apply Kd.R_drewN | apply Kd.R_drew)); exact HO33020.out⟩, ⟨by (with_reducible repeat (first | apply Kd.S_alloc | apply Kd.S_drewN | apply Kd.S_drew)); exact HO_6.out⟩, ⟨by (with_reducible repeat (first | refine blk_drewN ?_ _ | refine blk_drew ?_ | refine blk_alloc ?_ _)); exact BK33001.out⟩, ⟨by (with_reducible repeat (first | refine blk_drewN ?_ _ | refine blk_drew ?_ | refine blk_alloc ?_ _)); exact BK33002.out⟩, ⟨by exact HB.out⟩⟩
            · rw [if_neg c23] at H
              exact absurd H (by simp)
          · rw [if_neg c21] at H
            exact absurd H (by simp)
        · rw [if_neg c20] at H
          have c20b0 : decide (x7_1 < (t33010.length : Int)) = false := decide_eq_false c20
          clear c20
          obtain rfl := Option.some.inj H
          obtain ⟨Ao27, co27, eo27⟩ := Kd.S_slice HO_6.out
          subst eo27
          go_wp2
          go_ret
          exact ⟨_, by rfl, by (with_reducible repeat (first | apply Kd.R_alloc | apply Kd.R_drewN | apply Kd.R_drew)); exact HO_5.out, by exact HB.out⟩
  · replace c4 := Bool.eq_false_iff.mpr c4
    subst c4
    have H1 : (some ([] : List S60)) = some r := by rw [if_neg (show ¬ (false = true) by decide)] at H; exact H
    clear H
    have H := H1
    clear H1
    obtain rfl := Option.some.inj H
    go_enter Try.func32, Try.ntmps32
    go_wp2_with (first | ((with_reducible refine gate_dst (N := 2) rfl ?_); refine box_event ?hg (N := 2) ?hd (cs := #[.int .i64 a0_0, .int .i64 a0_1, .int .i64 a0_2, .slice A0_3 l0_3.length c0_3]) (t := 28) ?hr ?_; (case hd => rfl); (case hg => rfl); (case hr => (go_simp; done)); intro gb33001 hg w28 hbox hb; have n0_ := Aside0.mk (below_step HB.out hb); have n1_ := Aside0.mk (hbox); have n2_ := Aside0.mk ((by rw [hg]; exact (below_size HB.out) : w.heap.size ≤ gb33001)); have n3_ := Aside0.mk ((by rw [hg]; exact (below_size HB.out) : w.heap.size ≤ gb33001)); clear HB; have HB := n0_; have BK33001 := n1_; have GW33001 := n2_; have GE33001 := n3_; clear n0_ n1_ n2_ n3_; clear hb hbox hg) | ((with_reducible refine gate_dst (N := 3) rfl ?_); refine box_event ?hg (N := 3) ?hd (cs := #[.int .i64 a1_0, .int .i64 a1_1, .int .i64 a1_2, .slice A1_3 l1_3.length c1_3]) (t := 28) ?hr ?_; (case hd => rfl); (case hg => rfl); (case hr => (go_simp; done)); intro gb33002 hg w29 hbox hb; have n0_ := Aside0.mk (blk_below BK33001.out hb); have n1_ := Aside0.mk (below_step HB.out hb); have n2_ := Aside0.mk (hbox); have n3_ := Aside0.mk ((by rw [hg]; exact (below_size HB.out) : w.heap.size ≤ gb33002)); have n4_ := Aside0.mk ((by rw [hg]; exact (below_size HB.out) : w.heap.size ≤ gb33002)); have n5_ := Aside0.mk ((by rw [hg]; exact Nat.ne_of_lt (blk_lt BK33001.out) : gb33001 ≠ gb33002)); have n6_ := Aside0.mk ((by rw [hg]; exact Nat.ne_of_gt (blk_lt BK33001.out) : gb33002 ≠ gb33001)); clear BK33001; clear HB; have BK33001 := n0_; have HB := n1_; have BK33002 := n2_; have GW33002 := n3_; have GE33002 := n4_; have NB33001_33002 := n5_; have NB33002_33001 := n6_; clear n0_ n1_ n2_ n3_ n4_ n5_ n6_; clear hb hbox hg) | ((with_reducible refine gate_dst (N := 8) rfl ?_); refine Kd.R_lit k60 _ 60 ?hg (N := 8) ?hd (xs := ([] : List S60)) (inner := []) (ok := fun _ => True) (okp := fun _ => True) ?hr ?hp (fun _ hk => hk) trivial (Below.refl _ _) (Nat.le_refl _) (by simp) ?_; (case hd => rfl); (case hg => rfl); (case hr => (go_simp; done)); (case hp => exact (Reps.none _ _)); intro v33004 w30 ho31 hb hg_ hnew_; clear hg_ hnew_; (rw [← Ny33003.out] at ho31); have n0_ := Aside0.mk (Kd.R_lower ho31 (below_size HB.out)); have n1_ := Aside0.mk (blk_below BK33001.out hb); have n2_ := Aside0.mk (blk_below BK33002.out hb); have n3_ := Aside0.mk (below_step HB.out hb); clear BK33001; clear BK33002; clear HB; have HO33005 := n0_; have BK33001 := n1_; have BK33002 := n2_; have HB := n3_; clear n0_ n1_ n2_ n3_; clear hb ho31; have hnb32 := NB33001_33002.out; have hnc32 := NB33002_33001.out; have hcz33_0 : w30.cell? ⟨gb33001, 0, none⟩ = some (.int .i64 a0_0) := (blk_cell BK33001.out 0).trans rfl; have hcz33_1 : w30.cell? ⟨gb33001, 1, none⟩ = some (.int .i64 a0_1) := (blk_cell BK33001.out 1).trans rfl; have hcz33_2 : w30.cell? ⟨gb33001, 2, none⟩ = some (.int .i64 a0_2) := (blk_cell BK33001.out 2).trans rfl; have hcz33_3 : w30.cell? ⟨gb33001, 3, none⟩ = some (.slice A0_3 l0_3.length c0_3) := (blk_cell BK33001.out 3).trans rfl; have hfz33_0 := blk_frozen BK33001.out 0; have hfz33_1 := blk_frozen BK33001.out 1; have hfz33_2 := blk_frozen BK33001.out 2; have hfz33_3 := blk_frozen BK33001.out 3; have hcz34_0 : w30.cell? ⟨gb33002, 0, none⟩ = some (.int .i64 a1_0) := (blk_cell BK33002.out 0).trans rfl; have hcz34_1 : w30.cell? ⟨gb33002, 1, none⟩ = some (.int .i64 a1_1) := (blk_cell BK33002.out 1).trans rfl; have hcz34_2 : w30.cell? ⟨gb33002, 2, none⟩ = some (.int .i64 a1_2) := (blk_cell BK33002.out 2).trans rfl; have hcz34_3 : w30.cell? ⟨gb33002, 3, none⟩ = some (.slice A1_3 l1_3.length c1_3) := (blk_cell BK33002.out 3).trans rfl; have hfz34_0 := blk_frozen BK33002.out 0; have hfz34_1 := blk_frozen BK33002.out 1; have hfz34_2 := blk_frozen BK33002.out 2; have hfz34_3 := blk_frozen BK33002.out 3) | ((with_reducible refine gate_callee (f := 45) rfl ?_); refine goesL_ (some 11) rfl rfl Try.func45 (by kernel_rfl) rfl #[.agg #[.int .i64 a0_0, .int .i64 a0_1, .int .i64 a0_2, .slice A0_3 l0_3.length c0_3], .agg #[.int .i64 a1_0, .int .i64 a1_1, .int .i64 a1_2, .slice A1_3 l1_3.length c1_3]] rfl (by (try simp only [List.map_toArray, List.map_cons, List.map_nil]); rfl) ?_; (with_reducible refine (spec_sameShape.calls k a0_0 a0_1 a0_2 _ _ l0_3 a1_0 a1_1 a1_2 _ _ l1_3 false _ ?side1 ?side2 ?side3 ?side4 A3.out).mono ?_); (case side1 => repeat (exact (Kd.C_below HR0_3.out HB.out))); (case side2 => exact HC0_3.out); (case side3 => repeat (exact (Kd.C_below HR1_3.out HB.out))); (case side4 => exact HC1_3.out); rintro e w35 ⟨rfl, hb⟩; refine ⟨_, rfl, ?_⟩; have n0_ := Aside0.mk (Kd.R_below HO33005.out hb); have n1_ := Aside0.mk (blk_below BK33001.out hb); have n2_ := Aside0.mk (blk_below BK33002.out hb); have n3_ := Aside0.mk (below_step HB.out hb); clear HO33005; clear BK33001; clear BK33002; clear HB; have HO33005 := n0_; have BK33001 := n1_; have BK33002 := n2_; have HB := n3_; clear n0_ n1_ n2_ n3_; (try clear hb)))
    go_ret
    exact ⟨_, by rfl, by exact Kd.R_nil _ _ _ _ _, by exact HB.out⟩

end Go.Proofs.Ytbgohbinonkhfaa.Q

/- impl.neighbours: the four neighbours of a pixel. -/
namespace Go.Proofs.Ytbgohbinonkhfaa.Q
open Go.RowKit Go.Proofs.YtbgohbinonkhfaaW.PrintWords Go.Proofs.YtbgohbinonkhfaaW.PrintLast Go.Proofs.YtbgohbinonkhfaaW.PrintMore
attribute [local go_sem] max2_int min2_int max_two min_two max_three min_three max_four min_four
set_option linter.unusedVariables false
set_option linter.unusedSimpArgs false
open Go.Proofs.Ytbgohbinonkhfaa.Pure

/-- neighbour i of a pixel, which may be anywhere -/
def nbI (x y : Int) (i : Nat) : Int × Int := match i with
  | 0 => (x - 1, y)
  | 1 => (x + 1, y)
  | 2 => (x, y - 1)
  | _ => (x, y + 1)
/-- whether the neighbours before i all have what h says -/
def nbAll (h : Int → Int → Bool) (x y : Int) : Bool := h (x - 1) y && h (x + 1) y && h x (y - 1) && h x (y + 1)
def nbAny (h : Int → Int → Bool) (x y : Int) : Bool := h (x - 1) y || h (x + 1) y || h x (y - 1) || h x (y + 1)
theorem nbAll_no {h : Int → Int → Bool} {x y : Int} (i : Nat) (hi : i < 4) (hf : h (nbI x y i).1 (nbI x y i).2 = false) : nbAll h x y = false := by
  unfold nbAll
  obtain rfl | rfl | rfl | rfl : i = 0 ∨ i = 1 ∨ i = 2 ∨ i = 3 := by omega
  all_goals (simp only [nbI] at hf; rw [hf]; simp)
theorem nbAll_yes {h : Int → Int → Bool} {x y : Int} (ha : ∀ i, i < 4 → h (nbI x y i).1 (nbI x y i).2 = true) : nbAll h x y = true := by
  unfold nbAll
  have h0 := ha 0 (by omega)
  have h1 := ha 1 (by omega)
  have h2 := ha 2 (by omega)
  have h3 := ha 3 (by omega)
  simp only [nbI] at h0 h1 h2 h3
  rw [h0, h1, h2, h3]; rfl
theorem nbAny_yes {h : Int → Int → Bool} {x y : Int} (i : Nat) (hi : i < 4) (hf : h (nbI x y i).1 (nbI x y i).2 = true) : nbAny h x y = true := by
  unfold nbAny
  obtain rfl | rfl | rfl | rfl : i = 0 ∨ i = 1 ∨ i = 2 ∨ i = 3 := by omega
  all_goals (simp only [nbI] at hf; rw [hf]; simp)
theorem nbAny_no {h : Int → Int → Bool} {x y : Int} (ha : ∀ i, i < 4 → h (nbI x y i).1 (nbI x y i).2 = false) : nbAny h x y = false := by
  unfold nbAny
  have h0 := ha 0 (by omega)
  have h1 := ha 1 (by omega)
  have h2 := ha 2 (by omega)
  have h3 := ha 3 (by omega)
  simp only [nbI] at h0 h1 h2 h3
  rw [h0, h1, h2, h3]; rfl
def nbv (x y : Int) : Value := .agg #[.int .i64 (x - 1), .int .i64 y, .int .i64 (x + 1), .int .i64 y, .int .i64 x, .int .i64 (y - 1), .int .i64 x, .int .i64 (y + 1)]

set_option maxHeartbeats 4000000 in
set_option maxRecDepth 100000 in
theorem neighbours_calls (x y : Int) (h0 : 0 ≤ x ∧ x < 16 ∧ 0 ≤ y ∧ y < 16) (w : World) :
    Calls Try.prog 98 #[.int .i64 x, .int .i64 y] w fun e w' => e = .returned (nbv x y) ∧ Below w.heap.size w w' := by
  have e1 : wrap64 (x - 1) = x - 1 := w64 (by omega) (by omega)
  have e2 : wrap64 (x + 1) = x + 1 := w64 (by omega) (by omega)
  have e3 : wrap64 (y - 1) = y - 1 := w64 (by omega) (by omega)
  have e4 : wrap64 (y + 1) = y + 1 := w64 (by omega) (by omega)
  have hB := Aside0.mk (below_alloc (Below.refl w.heap.size w) (.cells #[.int .i64 0, .int .i64 0, .int .i64 0, .int .i64 0, .int .i64 0, .int .i64 0, .int .i64 0, .int .i64 0] 104))
  clear h0
  go_enter Try.func98, Try.ntmps98
  go_wp2
  refine bodyPost_ret (results_cell_row rfl _ _ w.heap.size 104 #[.int .i64 (x - 1), .int .i64 y, .int .i64 (x + 1), .int .i64 y, .int .i64 x, .int .i64 (y - 1), .int .i64 x, .int .i64 (y + 1)] (0, 0) (.array 4 102) rfl (blk_new _ _) Try.underlying104 rfl (by kernel_rfl)) rfl ?_
  exact ⟨rfl, below_alloc (Below.refl _ _) _⟩
end Go.Proofs.Ytbgohbinonkhfaa.Q

/- (impl.grid).part: the pixels of a grid that are connected with one of its pixels. -/
namespace Go.Proofs.Ytbgohbinonkhfaa.Q
open Go.RowKit Go.Proofs.YtbgohbinonkhfaaW.PrintWords Go.Proofs.YtbgohbinonkhfaaW.PrintLast Go.Proofs.YtbgohbinonkhfaaW.PrintMore
attribute [local go_sem] max2_int min2_int max_two min_two max_three min_three max_four min_four
set_option linter.unusedVariables false
set_option linter.unusedSimpArgs false

def posI (q : Int × Int) : Nat := q.2.toNat * 16 + q.1.toNat
def kQ : Kd (Int × Int) := Kd.pair (Kd.int .i64) (Kd.int .i64)
def lenOf : Value → Nat
  | .slice _ n _ => n
  | _ => 0
def outOf (W : World) (B : Nat) (p : Nat) : Bool := match W.cell? ⟨B, p, none⟩ with
  | some (.bool b) => b
  | _ => false
theorem unseen_congr {o o' : Nat → Bool} (h : ∀ p, p < 256 → o p = o' p) : unseen o = unseen o' := by
  unfold unseen
  exact List.countP_congr (fun p hp => by rw [h p (by simpa using hp)])
theorem unseen_out {W : World} {B : Nat} {o : Nat → Bool} (h : GridAt W B o) : unseen (outOf W B) = unseen o := unseen_congr (fun p hp => by unfold outOf; rw [h.cell p hp])
theorem infoQ : (Try.prog.info? 102).map (fun i => (i.zero, i.size, i.bytes)) = some (some (.agg #[.int .i64 0, .int .i64 0]), 2, 16) := by kernel_rfl
theorem kQ_M (W : World) (base : Nat) (ok : Nat → Prop) (a b : Int) : kQ.M W base ok (a, b) [.int .i64 a, .int .i64 b] := ⟨[.int .i64 a], [.int .i64 b], rfl, rfl, rfl⟩
theorem yieldsP_grid {ops : Array Oper} {S : World → Prop} {op : Oper} {a : Act} (hw : Region.wanted op (yielded ops a.tmps) = true) (x : Operand) (ho : op.op = .load 75 x)
    (B : Nat) (hx : a.eval x = .pointer (some ⟨B, 0, none⟩)) (g : Nat → Bool) (hS : ∀ w, S w → GridAt w B g) : YieldsIf Try.prog ops S op (.agg (gc g)) a :=
  .inl ⟨hw, fun w hw' => by
    unfold execOp
    simp only [ho, hx, Instr.loadAt, Instr.sureAddr, Sem.run_bind, Sem.run_pure, Result.andThen_ok, run_loadVar_row w B 75 75 (gc g) (0, 0) (.array 16 73) (hS w hw') underlying66 rfl (by rw [gc_size]; exact info66)]⟩
theorem yieldsP_int {ops : Array Oper} {S : World → Prop} {op : Oper} {a : Act} (hw : Region.wanted op (yielded ops a.tmps) = true) (x : Operand) (ho : op.op = .load 3 x)
    (ad : Addr) (hx : a.eval x = .pointer (some ad)) (v : Int) (hS : ∀ w, S w → w.cell? ad = some (.int .i64 v)) : YieldsIf Try.prog ops S op (.int .i64 v) a :=
  .inl ⟨hw, fun w hw' => by
    have h := hS w hw'
    unfold execOp
    simp only [ho, hx]
    go_simp⟩
theorem yieldsP_bool {ops : Array Oper} {S : World → Prop} {op : Oper} {a : Act} (hw : Region.wanted op (yielded ops a.tmps) = true) (x : Operand) (ho : op.op = .load 4 x)
    (ad : Addr) (hx : a.eval x = .pointer (some ad)) (v : Bool) (hS : ∀ w, S w → w.cell? ad = some (.bool v)) : YieldsIf Try.prog ops S op (.bool v) a :=
  .inl ⟨hw, fun w hw' => by
    have h := hS w hw'
    unfold execOp
    simp only [ho, hx]
    go_simp⟩
theorem setRow_keepP {W : World} {k g : Nat} {o : Obj} (h : W.heap[k]? = some o) (cs : Array Value) (hk : k ≠ g) : (W.setRow g cs).heap[k]? = some o := (setRow_other W g k cs hk).trans h
def nbList (F : Nat → Int × Int) : List (Int × Int) := [F 0, F 1, F 2, F 3]
theorem nbList_drop (F : Nat → Int × Int) (i : Nat) (h : i < 4) : (nbList F).drop i = ((F i).1, (F i).2) :: (nbList F).drop (i + 1) := by
  obtain rfl | rfl | rfl | rfl : i = 0 ∨ i = 1 ∨ i = 2 ∨ i = 3 := by omega
  all_goals rfl
theorem nb_mem (x y : Int) (p r : Nat) (hx : x = ((p % 16 : Nat) : Int)) (hy : y = ((p / 16 : Nat) : Int)) (hp : p < 256) (hr : r < 256) (ha : Adj p r) : (((r % 16 : Nat) : Int), ((r / 16 : Nat) : Int)) ∈ nbList (nbI x y) := by
  have := adj_nb p r hp hr ha
  subst hx hy
  unfold nbList nbI
  simp only [List.mem_cons, Prod.mk.injEq]
  rcases this with h | h | h | h
  · exact .inl h
  · exact .inr (.inl h)
  · exact .inr (.inr (.inl h))
  · exact .inr (.inr (.inr (.inl h)))
theorem nb_near (x y : Int) (p i : Nat) (hx : x = ((p % 16 : Nat) : Int)) (hy : y = ((p / 16 : Nat) : Int)) (hp : p < 256) (hi : i < 4) (h0 : 0 ≤ (nbI x y i).1) (h1 : (nbI x y i).1 < 16) (h2 : 0 ≤ (nbI x y i).2) (h3 : (nbI x y i).2 < 16) :
    Adj p ((nbI x y i).2.toNat * 16 + (nbI x y i).1.toNat) := by
  subst hx hy
  refine nb_adj p hp _ _ h0 h1 h2 h3 ?_
  obtain rfl | rfl | rfl | rfl : i = 0 ∨ i = 1 ∨ i = 2 ∨ i = 3 := by omega
  · exact .inl ⟨rfl, rfl⟩
  · exact .inr (.inl ⟨rfl, rfl⟩)
  · exact .inr (.inr (.inl ⟨rfl, rfl⟩))
  · exact .inr (.inr (.inr ⟨rfl, rfl⟩))

set_option maxHeartbeats 1600000 in
set_option maxRecDepth 100000 in
theorem part_calls (g : Nat → Bool) (x y : Nat) (hx : x < 16) (hy : y < 16) (w : World) :
    Calls Try.prog 70 #[.agg (gc g), .int .i64 (x : Int), .int .i64 (y : Int)] w fun e w' => e = .returned (.agg (gc (comp g (y * 16 + x)))) ∧ Below w.heap.size w w' := by
  have z0 := zero66
  have HSZ := Aside0.mk (fun g g' : Nat → Bool => show (gc g).size = (gc g').size by rw [gc_size, gc_size])
  have HO := Aside0.mk (fun g : Nat → Bool => gc_one g)
  have HI := Aside0.mk (fun g : Nat → Bool => show (Try.prog.info? 75).map (·.size) = some (gc g).size by rw [gc_size]; exact info66)
  go_enter Try.func70, Try.ntmps70
  have hz2 : (((w.alloc (.cells (gc g) 75)).alloc (.cells (gc fun _ => false) 75)).alloc (.cells (gc fun _ => false) 75)).heap[w.heap.size + 2]? = some (.cells (gc fun _ => false) 75 (0, 0)) := by
    have h := GridAt.new ((w.alloc (.cells (gc g) 75)).alloc (.cells (gc fun _ => false) 75)) (fun _ => false)
    simp only [World.size_alloc] at h
    exact h
  have HZ1 := Aside0.mk (GridAt.alloc (GridAt.new (w.alloc (.cells (gc g) 75)) (fun _ => false)) (.cells (gc fun _ => false) 75))
  simp only [World.size_alloc] at HZ1
  have HZG := Aside0.mk (GridAt.alloc (GridAt.alloc (GridAt.new w g) (.cells (gc fun _ => false) 75)) (.cells (gc fun _ => false) 75))
  have HBa := Aside0.mk (below_alloc (below_alloc (below_alloc (Below.refl w.heap.size w) (.cells (gc g) 75)) (.cells (gc fun _ => false) 75)) (.cells (gc fun _ => false) 75))
  have HS := Aside0.mk (GridAt.setRow (g := fun _ => false) hz2 (fun _ => false))
  have hcc := HS.out.cell (y * 16 + x) (by omega)
  have hcf := HS.out.free (y * 16 + x)
  have HS2 := Aside0.mk (HS.out.set_ (y * 16 + x) true)
  have HS1 := Aside0.mk (blk_far (setRow_keepP HZ1.out (gc fun _ => false) (show w.heap.size + 1 ≠ w.heap.size + 2 by omega)) (show w.heap.size + 1 ≠ (⟨w.heap.size + 2, y * 16 + x, none⟩ : Addr).block by simp) (.bool true))
  have HSG := Aside0.mk (blk_far (setRow_keepP HZG.out (gc fun _ => false) (show w.heap.size ≠ w.heap.size + 2 by omega)) (show w.heap.size ≠ (⟨w.heap.size + 2, y * 16 + x, none⟩ : Addr).block by simp) (.bool true))
  have HBs := Aside0.mk (below_set (g := w.heap.size + 2) (j := y * 16 + x) (v := .bool true) (below_setRow (g := w.heap.size + 2) HBa.out (by omega) (gc fun _ => false)) (by omega))
  have HZ2 := Aside0.mk hz2
  clear hz2 HS HZ1 HZG HBa
  go_wp2_with (first | ((with_reducible refine wpList_store_row rfl 75 (.tmp 7) (.tmp 12) rfl (w.heap.size + 2) (gc fun _ => false) ?hx ?hy 75 (gc fun _ => false) HZ2.out (HI.out _) (HSZ.out _ _) (HO.out _) ?_); (case hx => rfl); (case hy => rfl)) | ((with_reducible refine gate_dst (N := 20) rfl ?_); refine Kd.R_lit kQ w.heap.size 102 ?hg (N := 20) ?hd (xs := [((x : Int), (y : Int))]) (inner := [.int .i64 (x : Int), .int .i64 (y : Int)]) (ok := fun _ => True) (okp := fun _ => True) ?hr ?hp (fun _ hk => hk) trivial HBs.out HBs.out.size (by simp) ?_; (case hd => rfl); (case hg => rfl); (case hr => (go_simp; done)); (case hp => exact Reps.snoc (Reps.none _ _) (kQ_M _ _ _ _ _) rfl); intro v20 W0 ho hb hg_ hnew_; have HQ0 := Aside0.mk (Kd.Q_of_R ho); have HB0 := Aside0.mk hb; have HG0 : Aside0 (GridAt W0 w.heap.size g) := Aside0.mk (blk_grown HSG.out hg_ (by simp)); have HZ0 : Aside0 (GridAt W0 (w.heap.size + 1) (fun _ => false)) := Aside0.mk (blk_grown HS1.out hg_ (by simp)); have HX0 := Aside0.mk (blk_grown HS2.out hg_ (by simp)); clear ho hb hg_ hnew_))
  have hinit : (fun p => if p = y * 16 + x then true else false) = fun q => decide (q = y * 16 + x) := by
    funext p
    by_cases e : p = y * 16 + x
    · rw [if_pos e, decide_eq_true e]
    · rw [if_neg e, decide_eq_false e]
  have HM0 := Aside0.mk (mid_init g (y * 16 + x) (by omega))
  rw [← hinit] at HM0
  have HU0 : unseen (fun p => if p = y * 16 + x then true else false) + 1 = 256 := by
    have h := unseen_set (fun _ => false) (y * 16 + x) (by omega) rfl
    have h2 : unseen (fun _ => false) = 256 := by simp [unseen]
    rw [h2] at h
    exact h
  clear hinit
  go_loopw [8] (fun v8 W => ∃ (out : Nat → Bool) (qs : List (Int × Int)) (p0 : Nat), Aside0 (kQ.Q 102 W w.heap.size (fun _ => True) v8 qs ∧ GridAt W w.heap.size g ∧ GridAt W (w.heap.size + 1) (fun _ => false) ∧ GridAt W (w.heap.size + 2) out ∧ Below w.heap.size w W) ∧ Aside0 (Mid g (y * 16 + x) out (qs.map posI) p0 [] ∧ (∀ q ∈ qs, 0 ≤ q.1 ∧ q.1 < 16 ∧ 0 ≤ q.2 ∧ q.2 < 16) ∧ qs.length + unseen out ≤ 256)) (fun v8 W => 2 * unseen (outOf W (w.heap.size + 2)) + lenOf v8)
  case atStart =>
    refine ⟨_, _, y * 16 + x, ⟨HQ0.out, HG0.out, HZ0.out, HX0.out, HB0.out⟩, ⟨HM0.out, ?_, ?_⟩⟩
    · intro q hq
      rw [List.mem_singleton] at hq
      subst hq
      simp only
      omega
    · simp only [List.length_singleton]; omega
  case round =>
    obtain ⟨out, qs, p0, HW, HM⟩ := hrel
    clear HM0 HU0 HQ0 HB0 HG0 HZ0 HX0 HBs HSG HS1 HS2 HZ2 hcc hcf
    obtain ⟨wo, rfl⟩ : ∃ wo : World, wo = wr := ⟨_, rfl⟩
    have HMS := Aside0.mk (unseen_out HW.out.2.2.2.1)
    obtain ⟨A, c, rfl, hcl, hC⟩ := Kd.Q_reads HW.out.1
    cases qs with
    | nil =>
      have hgo : wo.heap[w.heap.size + 2]? = some (.cells (gc out) 75 (0, 0)) := HW.out.2.2.2.1
      have hgz : wo.heap[w.heap.size + 1]? = some (.cells (gc fun _ => false) 75 (0, 0)) := HW.out.2.2.1
      have hend := mid_end (g := g) (s := y * 16 + x) (by omega) HM.out.1
      have HE := Aside0.mk (gc_congr hend)
      clear hend hC hcl
      go_wp2_with (first | ((with_reducible refine gate_dst (N := 64) rfl ?_); refine wpList_load_row rfl 75 (.tmp 7) rfl (w.heap.size + 2) rfl 75 (gc out) (0, 0) (.array 16 73) hgo underlying66 rfl (HI.out _) ?_) | ((with_reducible refine wpList_store_row rfl 75 (.tmp 6) (.tmp 64) rfl (w.heap.size + 1) (gc out) ?hx ?hy 75 (gc fun _ => false) hgz (HI.out _) (HSZ.out _ _) (HO.out _) ?_); (case hx => rfl); (case hy => rfl)))
      refine bodyPost_ret (results_cell_row rfl _ _ (w.heap.size + 1) 75 (gc out) (0, 0) (.array 16 73) rfl (GridAt.setRow (g := fun _ => false) hgz out) underlying66 rfl (HI.out _)) rfl ?_
      exact ⟨by rw [HE.out], below_setRow HW.out.2.2.2.2 (Nat.le_succ _) _⟩
    | cons q0 rest =>
      obtain ⟨x0, y0⟩ := q0
      have hr := HM.out.2.1 (x0, y0) (by simp)
      simp only at hr
      obtain ⟨x0, rfl⟩ := Int.eq_ofNat_of_zero_le hr.1
      obtain ⟨y0, rfl⟩ := Int.eq_ofNat_of_zero_le hr.2.2.1
      have hx0 : x0 < 16 := by omega
      have hy0 : y0 < 16 := by omega
      clear hr
      obtain ⟨ad, hA, hrd⟩ := hC.2.2 (by simp)
      subst hA
      obtain ⟨cs, hcs, ⟨c0, c1, hcc, hk0, hk1⟩, hat⟩ := hrd 0 ((x0 : Int), (y0 : Int)) rfl
      have hk0' : c0 = [.int .i64 (x0 : Int)] := hk0
      have hk1' : c1 = [.int .i64 (y0 : Int)] := hk1
      subst hk0' hk1' hcc
      have ha0 := hat 0 _ rfl
      have ha1 := hat 1 _ rfl
      clear hat hrd hC hk0 hk1 hcs
      have hb0 : wo.cell? ad = some (.int .i64 (x0 : Int)) := by
        have e : ad.add (0 * kQ.sz + 0) = ad := by show ad.add 0 = ad; simp [Addr.add]
        rw [e] at ha0; exact ha0
      have hb1 : wo.cell? ⟨ad.block, ad.off + 1, none⟩ = some (.int .i64 (y0 : Int)) := by
        have e : ad.add (0 * kQ.sz + 1) = ⟨ad.block, ad.off + 1, none⟩ := by
          show ad.add 1 = _
          have h := add_field ad 0 1 (by omega)
          rw [Nat.zero_add] at h
          rw [h]; simp [Addr.add]
        rw [e] at ha1; exact ha1
      have hb2 : wo.cell? (ad.add 1) = some (.int .i64 (y0 : Int)) := ha1
      clear ha0 ha1
      obtain ⟨i0, hi0, _, hsz0, _⟩ := info_parts infoQ
      have hcut := cut_from (P := Try.prog) 103 102 .i64 Try.underlying103 hi0 2 hsz0 (some ad) (((x0 : Int), (y0 : Int)) :: rest).length c 1 (by omega) (by simp; omega)
      have hdrop := Kd.Q_drop (k := 1) HW.out.1 (by simp)
      obtain ⟨A1, hA1⟩ : ∃ A1, A1 = (if c = 1 then (some ad : Option Addr) else (some ad : Option Addr).map (·.add (1 * 2))) := ⟨_, rfl⟩
      obtain ⟨c1, hc1⟩ : ∃ c1, c1 = c - 1 := ⟨_, rfl⟩
      rw [show (1 : Int).toNat = 1 from rfl, ← hA1, ← hc1] at hcut
      have hdrop' : kQ.Q 102 wo w.heap.size (fun _ => True) (.slice A1 ((((x0 : Int), (y0 : Int)) :: rest).length - 1) c1) rest := by
        rw [hA1, hc1]; exact hdrop
      have HQ1 := Aside0.mk hdrop'
      clear hdrop hdrop' hA1 hc1 hi0 hsz0
      have hl1 : (((x0 : Int), (y0 : Int)) :: rest).length - 1 = rest.length := by simp
      rw [hl1] at hcut HQ1
      have HN := Aside0.mk (neighbours_calls (x0 : Int) (y0 : Int) (by omega))
      obtain ⟨n, hn⟩ : ∃ n, n = (((x0 : Int), (y0 : Int)) :: rest).length := ⟨_, rfl⟩
      rw [← hn] at hcut hcl ⊢
      have hnr : n = rest.length + 1 := by rw [hn]; simp
      have hnp : decide ((0 : Int) < (n : Int)) = true := by simp; omega
      have hn0 : (0 : Int) < (n : Int) := by omega
      clear hl1 hn
      have HBN := Aside0.mk (below_alloc (Below.refl wo.heap.size wo) (.cells #[.int .i64 (x0 : Int), .int .i64 (y0 : Int)] 102))
      have HCUT := Aside0.mk hcut
      clear hcut
      go_wp2_with (first | ((with_reducible refine gate_dst (N := 28) rfl ?_); refine Kd.event_run (v := .slice A1 rest.length c1) (w1 := wo.alloc (.cells #[.int .i64 (x0 : Int), .int .i64 (y0 : Int)] 102)) rfl ?hr ?_; (case hr => (have hc_ := HCUT.out (wo.alloc (.cells #[.int .i64 (x0 : Int), .int .i64 (y0 : Int)] 102)); simp [execOp, Act.eval, Instr.sliceAt, Result.andThen, hc_]))) | (go_at_call 98; refine (HN.out _).mono ?_; rintro e w1 ⟨rfl, hb1⟩; have HB1 := Aside0.mk (below_then HBN.out HBN.out.size hb1); clear hb1))
      have HW1 := Aside0.mk (show kQ.Q 102 w1 w.heap.size (fun _ => True) (.slice A1 rest.length c1) rest ∧ GridAt w1 w.heap.size g ∧ GridAt w1 (w.heap.size + 1) (fun _ => false) ∧ GridAt w1 (w.heap.size + 2) out ∧ Below w.heap.size w w1 from
        ⟨Kd.Q_below HQ1.out HB1.out, HW.out.2.1.below HB1.out, HW.out.2.2.1.below HB1.out, HW.out.2.2.2.1.below HB1.out, below_then HW.out.2.2.2.2 HW.out.2.2.2.2.size HB1.out⟩)
      have hpe : posI ((x0 : Int), (y0 : Int)) = y0 * 16 + x0 := by simp [posI]
      have hpx : (x0 : Int) = (((y0 * 16 + x0) % 16 : Nat) : Int) := by omega
      have hpy : (y0 : Int) = (((y0 * 16 + x0) / 16 : Nat) : Int) := by omega
      have HM1 := Aside0.mk (show Mid g (y * 16 + x) out (rest.map posI) (y0 * 16 + x0) (nbList (nbI (x0 : Int) (y0 : Int))) from
        mid_pop HM.out.1 (p := y0 * 16 + x0) (by rw [List.map_cons, hpe]; simp) (fun q hq => by rw [List.map_cons, hpe, List.mem_cons] at hq; exact hq) (fun q hq => by rw [List.map_cons]; exact List.mem_cons_of_mem _ hq)
          (fun r hr ha => nb_mem _ _ _ r hpx hpy (by omega) hr ha))
      have HNR := Aside0.mk (fun i (hi : i < 4) => nb_near (x0 : Int) (y0 : Int) (y0 * 16 + x0) i hpx hpy (by omega) hi)
      have HR1 := Aside0.mk (show (∀ q ∈ rest, 0 ≤ q.1 ∧ q.1 < 16 ∧ 0 ≤ q.2 ∧ q.2 < 16) ∧ rest.length + unseen out ≤ 256 from ⟨fun q hq => HM.out.2.1 q (List.mem_cons_of_mem _ hq), by have := HM.out.2.2; rw [List.length_cons] at this; omega⟩)
      clear hpe hpx hpy hb0 hb1 hb2 HQ1 HBN HCUT HN
      obtain ⟨U, hU⟩ : ∃ U, U = 2 * unseen out + n := ⟨_, rfl⟩
      have HUB := Aside0.mk (show 2 * unseen out + rest.length < U by omega)
      have HUE := Aside0.mk hU
      clear hU
      unfold nbv
      go_loopw [8, 34] (fun v8 v34 W => ∃ (out' : Nat → Bool) (qs' : List (Int × Int)) (i : Nat), v34 = .int .i64 i ∧ i ≤ 4 ∧ Aside0 (kQ.Q 102 W w.heap.size (fun _ => True) v8 qs' ∧ GridAt W w.heap.size g ∧ GridAt W (w.heap.size + 1) (fun _ => false) ∧ GridAt W (w.heap.size + 2) out' ∧ Below w.heap.size w W) ∧
        Aside0 (Mid g (y * 16 + x) out' (qs'.map posI) (y0 * 16 + x0) ((nbList (nbI (x0 : Int) (y0 : Int))).drop i) ∧ (∀ q ∈ qs', 0 ≤ q.1 ∧ q.1 < 16 ∧ 0 ≤ q.2 ∧ q.2 < 16) ∧ qs'.length + unseen out' ≤ 256 ∧ 2 * unseen out' + qs'.length < U)) (fun _ v34 _ => 4 - (intOf v34).toNat)
      case atStart => exact ⟨out, rest, 0, rfl, by omega, HW1, ⟨HM1.out, HR1.out.1, HR1.out.2, HUB.out⟩⟩
      case round =>
        obtain ⟨out', qs', i, rfl, hi, HV, HT⟩ := hrel
        clear HW1 HM1 HR1 HUB HB1
        obtain ⟨wi, rfl⟩ : ∃ wi : World, wi = wr := ⟨_, rfl⟩
        by_cases h4 : i < 4
        · have hd : decide ((i : Int) < 4) = true := by simp; omega
          have HNE := Aside0.mk (HNR.out i h4)
          have HDR := Aside0.mk (nbList_drop (nbI (x0 : Int) (y0 : Int)) i h4)
          obtain ⟨nx, hnx⟩ : ∃ z, z = (nbI (x0 : Int) (y0 : Int) i).1 := ⟨_, rfl⟩
          obtain ⟨ny, hny⟩ : ∃ z, z = (nbI (x0 : Int) (y0 : Int) i).2 := ⟨_, rfl⟩
          have HRUN := Aside0.mk hnx
          have HRUN2 := Aside0.mk hny
          rw [← hnx, ← hny] at HDR HNE
          clear hnx hny
          have HM2 := Aside0.mk (show Mid g (y * 16 + x) out' (qs'.map posI) (y0 * 16 + x0) ((nx, ny) :: (nbList (nbI (x0 : Int) (y0 : Int))).drop (i + 1)) from by have h := HT.out.1; rw [HDR.out] at h; exact h)
          have HBL := Aside0.mk (blk_new wi (.cells #[.int .i64 nx, .int .i64 ny] 102))
          have HGG := Aside0.mk (GridAt.alloc HV.out.2.1 (.cells #[.int .i64 nx, .int .i64 ny] 102))
          have HGO := Aside0.mk (GridAt.alloc HV.out.2.2.2.1 (.cells #[.int .i64 nx, .int .i64 ny] 102))
          cases hv : hasP g nx ny with
          | false =>
            have HSK := Aside0.mk (mid_skip HM2.out (.inl hv))
            go_wp2_with (first
              | ((with_reducible refine gate_dst (N := 36) rfl ?_); refine Kd.event_run (v := .agg #[.int .i64 nx, .int .i64 ny]) (w1 := wi) rfl ?hr ?_; (case hr => (rw [HRUN.out, HRUN2.out]; (obtain e | e | e | e : i = 0 ∨ i = 1 ∨ i = 2 ∨ i = 3 := by omega); all_goals (subst e; kernel_rfl)))))
            refine wp_region_held_drew (S := fun W => Aside0 (Below (wi.alloc (.cells #[.int .i64 nx, .int .i64 ny] 102)).heap.size (wi.alloc (.cells #[.int .i64 nx, .int .i64 ny] 102)) W)) (by kernel_rfl) ⟨below_drew (Below.refl _ _)⟩ (fun hH => ?_)
            obtain ⟨W3, hW3⟩ : ∃ W, W = (wi.alloc (.cells #[.int .i64 nx, .int .i64 ny] 102)).drew := ⟨_, rfl⟩
            rw [← hW3] at hH ⊢
            clear hW3
            refine wpAnyH_take (i := 0) rfl (by kernel_rfl) (by kernel_rfl) (by kernel_rfl) (fun _ _ _ h => h) (yieldsP_grid (by kernel_rfl) _ rfl w.heap.size rfl g (fun W hW => GridAt.below HGG.out hW.out)) hH ?_
            simp only [Act.put, List.setIfInBounds_toArray, List.set_cons_zero, List.set_cons_succ, List.getElem_toArray, List.getElem_cons_zero, List.getElem_cons_succ]
            refine wpAnyH_take (i := 1) (v := .pointer (some ⟨wi.heap.size, 0, none⟩)) rfl (by kernel_rfl) (by kernel_rfl) (by kernel_rfl) (fun _ _ _ h => h) (.inl ⟨by kernel_rfl, fun W hW => by (go_simp; done)⟩) hH ?_
            simp only [Act.put, List.setIfInBounds_toArray, List.set_cons_zero, List.set_cons_succ, List.getElem_toArray, List.getElem_cons_zero, List.getElem_cons_succ]
            refine wpAnyH_take (i := 2) rfl (by kernel_rfl) (by kernel_rfl) (by kernel_rfl) (fun _ _ _ h => h) (yieldsP_int (by kernel_rfl) _ rfl ⟨wi.heap.size, 0, none⟩ rfl nx (fun W hW => (blk_cell (blk_below HBL.out hW.out) 0).trans rfl)) hH ?_
            simp only [Act.put, List.setIfInBounds_toArray, List.set_cons_zero, List.set_cons_succ, List.getElem_toArray, List.getElem_cons_zero, List.getElem_cons_succ]
            refine wpAnyH_take (i := 3) (v := .pointer (some ⟨wi.heap.size, 1, none⟩)) rfl (by kernel_rfl) (by kernel_rfl) (by kernel_rfl) (fun _ _ _ h => h) (.inl ⟨by kernel_rfl, fun W hW => by (go_simp; done)⟩) hH ?_
            simp only [Act.put, List.setIfInBounds_toArray, List.set_cons_zero, List.set_cons_succ, List.getElem_toArray, List.getElem_cons_zero, List.getElem_cons_succ]
            refine wpAnyH_take (i := 4) rfl (by kernel_rfl) (by kernel_rfl) (by kernel_rfl) (fun _ _ _ h => h) (yieldsP_int (by kernel_rfl) _ rfl ⟨wi.heap.size, 1, none⟩ rfl ny (fun W hW => (blk_cell (blk_below HBL.out hW.out) 1).trans rfl)) hH ?_
            simp only [Act.put, List.setIfInBounds_toArray, List.set_cons_zero, List.set_cons_succ, List.getElem_toArray, List.getElem_cons_zero, List.getElem_cons_succ]
            refine wpAnyH_ready (rs := [5]) (by kernel_rfl) (by simp) ?_
            refine AllReadyH.cons (i := 5) rfl ?_ AllReadyH.nil
            intro K hK
            rw [if_pos (by rfl)]
            go_simp
            go_wp2_with (first | (go_at_call 58; refine (has_calls _ _ _ _).mono ?_; rintro e W4 ⟨rfl, hb⟩))
            refine hK.out _ _ ⟨below_then hH.out hH.out.size hb⟩ (fun hH1 => ?_)
            clear hK K hb hH
            have hH := hH1
            clear hH1
            try rw [hv]
            try simp only [Act.put, List.setIfInBounds_toArray, List.set_cons_zero, List.set_cons_succ, List.getElem_toArray, List.getElem_cons_zero, List.getElem_cons_succ]
            refine wpAnyH_take (i := 6) (v := .bool false) rfl (by kernel_rfl) (by kernel_rfl) (by kernel_rfl) (fun _ _ _ h => h) (.inl ⟨by kernel_rfl, fun W hW => by (go_simp; done)⟩) hH ?_
            simp only [Act.put, List.setIfInBounds_toArray, List.set_cons_zero, List.set_cons_succ, List.getElem_toArray, List.getElem_cons_zero, List.getElem_cons_succ]
            refine wpAnyH_take (i := 7) (v := undef) rfl (by kernel_rfl) (by kernel_rfl) (by kernel_rfl) (fun _ _ _ h => h) (.inr ⟨by kernel_rfl, rfl⟩) hH ?_
            simp only [Act.put, List.setIfInBounds_toArray, List.set_cons_zero, List.set_cons_succ, List.getElem_toArray, List.getElem_cons_zero, List.getElem_cons_succ]
            refine wpAnyH_take (i := 8) (v := undef) rfl (by kernel_rfl) (by kernel_rfl) (by kernel_rfl) (fun _ _ _ h => h) (.inr ⟨by kernel_rfl, rfl⟩) hH ?_
            simp only [Act.put, List.setIfInBounds_toArray, List.set_cons_zero, List.set_cons_succ, List.getElem_toArray, List.getElem_cons_zero, List.getElem_cons_succ]
            refine wpAnyH_take (i := 9) (v := undef) rfl (by kernel_rfl) (by kernel_rfl) (by kernel_rfl) (fun _ _ _ h => h) (.inr ⟨by kernel_rfl, rfl⟩) hH ?_
            simp only [Act.put, List.setIfInBounds_toArray, List.set_cons_zero, List.set_cons_succ, List.getElem_toArray, List.getElem_cons_zero, List.getElem_cons_succ]
            refine wpAnyH_take (i := 10) (v := undef) rfl (by kernel_rfl) (by kernel_rfl) (by kernel_rfl) (fun _ _ _ h => h) (.inr ⟨by kernel_rfl, rfl⟩) hH ?_
            simp only [Act.put, List.setIfInBounds_toArray, List.set_cons_zero, List.set_cons_succ, List.getElem_toArray, List.getElem_cons_zero, List.getElem_cons_succ]
            refine wpAnyH_take (i := 11) (v := undef) rfl (by kernel_rfl) (by kernel_rfl) (by kernel_rfl) (fun _ _ _ h => h) (.inr ⟨by kernel_rfl, rfl⟩) hH ?_
            simp only [Act.put, List.setIfInBounds_toArray, List.set_cons_zero, List.set_cons_succ, List.getElem_toArray, List.getElem_cons_zero, List.getElem_cons_succ]
            refine wpAnyH_take (i := 12) (v := undef) rfl (by kernel_rfl) (by kernel_rfl) (by kernel_rfl) (fun _ _ _ h => h) (.inr ⟨by kernel_rfl, rfl⟩) hH ?_
            simp only [Act.put, List.setIfInBounds_toArray, List.set_cons_zero, List.set_cons_succ, List.getElem_toArray, List.getElem_cons_zero, List.getElem_cons_succ]
            refine wpAnyH_take (i := 13) (v := undef) rfl (by kernel_rfl) (by kernel_rfl) (by kernel_rfl) (fun _ _ _ h => h) (.inr ⟨by kernel_rfl, rfl⟩) hH ?_
            simp only [Act.put, List.setIfInBounds_toArray, List.set_cons_zero, List.set_cons_succ, List.getElem_toArray, List.getElem_cons_zero, List.getElem_cons_succ]
            refine wpAnyH_take (i := 14) (v := undef) rfl (by kernel_rfl) (by kernel_rfl) (by kernel_rfl) (fun _ _ _ h => h) (.inr ⟨by kernel_rfl, rfl⟩) hH ?_
            simp only [Act.put, List.setIfInBounds_toArray, List.set_cons_zero, List.set_cons_succ, List.getElem_toArray, List.getElem_cons_zero, List.getElem_cons_succ]
            refine wpAnyH_take (i := 15) (v := .bool false) rfl (by kernel_rfl) (by kernel_rfl) (by kernel_rfl) (fun _ _ _ h => h) (.inl ⟨by kernel_rfl, fun W hW => by (go_simp; done)⟩) hH ?_
            simp only [Act.put, List.setIfInBounds_toArray, List.set_cons_zero, List.set_cons_succ, List.getElem_toArray, List.getElem_cons_zero, List.getElem_cons_succ]
            refine wpAnyH_done (by kernel_rfl) ?_ _
            go_wp2
            go_roundw
            case rel => exact ⟨out', qs', i + 1, by go_num, by omega, ⟨Kd.Q_below (Kd.Q_alloc HV.out.1 _) hH.out, (HV.out.2.1.alloc _).below hH.out, (HV.out.2.2.1.alloc _).below hH.out, (HV.out.2.2.2.1.alloc _).below hH.out, below_then (below_alloc HV.out.2.2.2.2 _) (below_alloc HV.out.2.2.2.2 _).size hH.out⟩, ⟨HSK.out, HT.out.2.1, HT.out.2.2.1, HT.out.2.2.2⟩⟩
            case measure => simp [intOf]; omega
          | true =>
            have hq := (hasP_iff g nx ny).1 hv
            obtain ⟨mx_, rfl⟩ := Int.eq_ofNat_of_zero_le hq.1
            obtain ⟨my, rfl⟩ := Int.eq_ofNat_of_zero_le hq.2.2.1
            have hmx : mx_ < 16 := by omega
            have hmy : my < 16 := by omega
            have HAD := Aside0.mk (HNE.out (by omega) (by omega) (by omega) (by omega))
            rw [Int.toNat_natCast, Int.toNat_natCast] at HAD
            clear hq
            cases ho : out' (my * 16 + mx_) with
            | true =>
              have HSK := Aside0.mk (mid_skip HM2.out (.inr (by rw [Int.toNat_natCast, Int.toNat_natCast]; exact ho)))
              go_wp2_with (first
                | ((with_reducible refine gate_dst (N := 36) rfl ?_); refine Kd.event_run (v := .agg #[.int .i64 (mx_ : Int), .int .i64 (my : Int)]) (w1 := wi) rfl ?hr ?_; (case hr => (rw [HRUN.out, HRUN2.out]; (obtain e | e | e | e : i = 0 ∨ i = 1 ∨ i = 2 ∨ i = 3 := by omega); all_goals (subst e; kernel_rfl)))))
              refine wp_region_held_drew (S := fun W => Aside0 (Below (wi.alloc (.cells #[.int .i64 (mx_ : Int), .int .i64 (my : Int)] 102)).heap.size (wi.alloc (.cells #[.int .i64 (mx_ : Int), .int .i64 (my : Int)] 102)) W)) (by kernel_rfl) ⟨below_drew (Below.refl _ _)⟩ (fun hH => ?_)
              obtain ⟨W3, hW3⟩ : ∃ W, W = (wi.alloc (.cells #[.int .i64 (mx_ : Int), .int .i64 (my : Int)] 102)).drew := ⟨_, rfl⟩
              rw [← hW3] at hH ⊢
              clear hW3
              refine wpAnyH_take (i := 0) rfl (by kernel_rfl) (by kernel_rfl) (by kernel_rfl) (fun _ _ _ h => h) (yieldsP_grid (by kernel_rfl) _ rfl w.heap.size rfl g (fun W hW => GridAt.below HGG.out hW.out)) hH ?_
              simp only [Act.put, List.setIfInBounds_toArray, List.set_cons_zero, List.set_cons_succ, List.getElem_toArray, List.getElem_cons_zero, List.getElem_cons_succ]
              refine wpAnyH_take (i := 1) (v := .pointer (some ⟨wi.heap.size, 0, none⟩)) rfl (by kernel_rfl) (by kernel_rfl) (by kernel_rfl) (fun _ _ _ h => h) (.inl ⟨by kernel_rfl, fun W hW => by (go_simp; done)⟩) hH ?_
              simp only [Act.put, List.setIfInBounds_toArray, List.set_cons_zero, List.set_cons_succ, List.getElem_toArray, List.getElem_cons_zero, List.getElem_cons_succ]
              refine wpAnyH_take (i := 2) rfl (by kernel_rfl) (by kernel_rfl) (by kernel_rfl) (fun _ _ _ h => h) (yieldsP_int (by kernel_rfl) _ rfl ⟨wi.heap.size, 0, none⟩ rfl (mx_ : Int) (fun W hW => (blk_cell (blk_below HBL.out hW.out) 0).trans rfl)) hH ?_
              simp only [Act.put, List.setIfInBounds_toArray, List.set_cons_zero, List.set_cons_succ, List.getElem_toArray, List.getElem_cons_zero, List.getElem_cons_succ]
              refine wpAnyH_take (i := 3) (v := .pointer (some ⟨wi.heap.size, 1, none⟩)) rfl (by kernel_rfl) (by kernel_rfl) (by kernel_rfl) (fun _ _ _ h => h) (.inl ⟨by kernel_rfl, fun W hW => by (go_simp; done)⟩) hH ?_
              simp only [Act.put, List.setIfInBounds_toArray, List.set_cons_zero, List.set_cons_succ, List.getElem_toArray, List.getElem_cons_zero, List.getElem_cons_succ]
              refine wpAnyH_take (i := 4) rfl (by kernel_rfl) (by kernel_rfl) (by kernel_rfl) (fun _ _ _ h => h) (yieldsP_int (by kernel_rfl) _ rfl ⟨wi.heap.size, 1, none⟩ rfl (my : Int) (fun W hW => (blk_cell (blk_below HBL.out hW.out) 1).trans rfl)) hH ?_
              simp only [Act.put, List.setIfInBounds_toArray, List.set_cons_zero, List.set_cons_succ, List.getElem_toArray, List.getElem_cons_zero, List.getElem_cons_succ]
              refine wpAnyH_ready (rs := [5]) (by kernel_rfl) (by simp) ?_
              refine AllReadyH.cons (i := 5) rfl ?_ AllReadyH.nil
              intro K hK
              rw [if_pos (by rfl)]
              go_simp
              go_wp2_with (first | (go_at_call 58; refine (has_calls _ _ _ _).mono ?_; rintro e W4 ⟨rfl, hb⟩))
              refine hK.out _ _ ⟨below_then hH.out hH.out.size hb⟩ (fun hH1 => ?_)
              clear hK K hb hH
              have hH := hH1
              clear hH1
              try rw [hv]
              try simp only [Act.put, List.setIfInBounds_toArray, List.set_cons_zero, List.set_cons_succ, List.getElem_toArray, List.getElem_cons_zero, List.getElem_cons_succ]
              refine wpAnyH_take (i := 6) (v := .bool true) rfl (by kernel_rfl) (by kernel_rfl) (by kernel_rfl) (fun _ _ _ h => h) (.inl ⟨by kernel_rfl, fun W hW => by (go_simp; done)⟩) hH ?_
              simp only [Act.put, List.setIfInBounds_toArray, List.set_cons_zero, List.set_cons_succ, List.getElem_toArray, List.getElem_cons_zero, List.getElem_cons_succ]
              refine wpAnyH_take (i := 7) (v := .pointer (some ⟨wi.heap.size, 1, none⟩)) rfl (by kernel_rfl) (by kernel_rfl) (by kernel_rfl) (fun _ _ _ h => h) (.inl ⟨by kernel_rfl, fun W hW => by (go_simp; done)⟩) hH ?_
              simp only [Act.put, List.setIfInBounds_toArray, List.set_cons_zero, List.set_cons_succ, List.getElem_toArray, List.getElem_cons_zero, List.getElem_cons_succ]
              refine wpAnyH_take (i := 8) rfl (by kernel_rfl) (by kernel_rfl) (by kernel_rfl) (fun _ _ _ h => h) (yieldsP_int (by kernel_rfl) _ rfl ⟨wi.heap.size, 1, none⟩ rfl (my : Int) (fun W hW => (blk_cell (blk_below HBL.out hW.out) 1).trans rfl)) hH ?_
              simp only [Act.put, List.setIfInBounds_toArray, List.set_cons_zero, List.set_cons_succ, List.getElem_toArray, List.getElem_cons_zero, List.getElem_cons_succ]
              refine wpAnyH_take (i := 9) (v := .pointer (some ⟨wi.heap.size, 0, none⟩)) rfl (by kernel_rfl) (by kernel_rfl) (by kernel_rfl) (fun _ _ _ h => h) (.inl ⟨by kernel_rfl, fun W hW => by (go_simp; done)⟩) hH ?_
              simp only [Act.put, List.setIfInBounds_toArray, List.set_cons_zero, List.set_cons_succ, List.getElem_toArray, List.getElem_cons_zero, List.getElem_cons_succ]
              refine wpAnyH_take (i := 10) rfl (by kernel_rfl) (by kernel_rfl) (by kernel_rfl) (fun _ _ _ h => h) (yieldsP_int (by kernel_rfl) _ rfl ⟨wi.heap.size, 0, none⟩ rfl (mx_ : Int) (fun W hW => (blk_cell (blk_below HBL.out hW.out) 0).trans rfl)) hH ?_
              simp only [Act.put, List.setIfInBounds_toArray, List.set_cons_zero, List.set_cons_succ, List.getElem_toArray, List.getElem_cons_zero, List.getElem_cons_succ]
              refine wpAnyH_take (i := 11) (v := .pointer (some ⟨w.heap.size + 1 + 1, my * 16, none⟩)) rfl (by kernel_rfl) (by kernel_rfl) (by kernel_rfl) (fun _ _ _ h => h) (.inl ⟨by kernel_rfl, fun W hW => by (go_simp; intro h_; omega)⟩) hH ?_
              simp only [Act.put, List.setIfInBounds_toArray, List.set_cons_zero, List.set_cons_succ, List.getElem_toArray, List.getElem_cons_zero, List.getElem_cons_succ]
              refine wpAnyH_take (i := 12) (v := .pointer (some ⟨w.heap.size + 1 + 1, my * 16 + mx_, none⟩)) rfl (by kernel_rfl) (by kernel_rfl) (by kernel_rfl) (fun _ _ _ h => h) (.inl ⟨by kernel_rfl, fun W hW => by (go_simp; intro h_; omega)⟩) hH ?_
              simp only [Act.put, List.setIfInBounds_toArray, List.set_cons_zero, List.set_cons_succ, List.getElem_toArray, List.getElem_cons_zero, List.getElem_cons_succ]
              refine wpAnyH_take (i := 13) rfl (by kernel_rfl) (by kernel_rfl) (by kernel_rfl) (fun _ _ _ h => h) (yieldsP_bool (by kernel_rfl) _ rfl ⟨w.heap.size + 1 + 1, my * 16 + mx_, none⟩ rfl true (fun W hW => (GridAt.cell (GridAt.below HGO.out hW.out) (my * 16 + mx_) (by omega)).trans (by rw [ho]))) hH ?_
              simp only [Act.put, List.setIfInBounds_toArray, List.set_cons_zero, List.set_cons_succ, List.getElem_toArray, List.getElem_cons_zero, List.getElem_cons_succ]
              refine wpAnyH_take (i := 14) (v := .bool (!true)) rfl (by kernel_rfl) (by kernel_rfl) (by kernel_rfl) (fun _ _ _ h => h) (.inl ⟨by kernel_rfl, fun W hW => by (go_simp; done)⟩) hH ?_
              simp only [Act.put, List.setIfInBounds_toArray, List.set_cons_zero, List.set_cons_succ, List.getElem_toArray, List.getElem_cons_zero, List.getElem_cons_succ]
              refine wpAnyH_take (i := 15) (v := .bool (!true)) rfl (by kernel_rfl) (by kernel_rfl) (by kernel_rfl) (fun _ _ _ h => h) (.inl ⟨by kernel_rfl, fun W hW => by (go_simp; done)⟩) hH ?_
              simp only [Act.put, List.setIfInBounds_toArray, List.set_cons_zero, List.set_cons_succ, List.getElem_toArray, List.getElem_cons_zero, List.getElem_cons_succ]
              refine wpAnyH_done (by kernel_rfl) ?_ _
              go_wp2
              go_roundw
              case rel => exact ⟨out', qs', i + 1, by go_num, by omega, ⟨Kd.Q_below (Kd.Q_alloc HV.out.1 _) hH.out, (HV.out.2.1.alloc _).below hH.out, (HV.out.2.2.1.alloc _).below hH.out, (HV.out.2.2.2.1.alloc _).below hH.out, below_then (below_alloc HV.out.2.2.2.2 _) (below_alloc HV.out.2.2.2.2 _).size hH.out⟩, ⟨HSK.out, HT.out.2.1, HT.out.2.2.1, HT.out.2.2.2⟩⟩
              case measure => simp [intOf]; omega
            | false =>
              go_wp2_with (first
                | ((with_reducible refine gate_dst (N := 36) rfl ?_); refine Kd.event_run (v := .agg #[.int .i64 (mx_ : Int), .int .i64 (my : Int)]) (w1 := wi) rfl ?hr ?_; (case hr => (rw [HRUN.out, HRUN2.out]; (obtain e | e | e | e : i = 0 ∨ i = 1 ∨ i = 2 ∨ i = 3 := by omega); all_goals (subst e; kernel_rfl)))))
              refine wp_region_held_drew (S := fun W => Aside0 (Below (wi.alloc (.cells #[.int .i64 (mx_ : Int), .int .i64 (my : Int)] 102)).heap.size (wi.alloc (.cells #[.int .i64 (mx_ : Int), .int .i64 (my : Int)] 102)) W)) (by kernel_rfl) ⟨below_drew (Below.refl _ _)⟩ (fun hH => ?_)
              obtain ⟨W3, hW3⟩ : ∃ W, W = (wi.alloc (.cells #[.int .i64 (mx_ : Int), .int .i64 (my : Int)] 102)).drew := ⟨_, rfl⟩
              rw [← hW3] at hH ⊢
              clear hW3
              refine wpAnyH_take (i := 0) rfl (by kernel_rfl) (by kernel_rfl) (by kernel_rfl) (fun _ _ _ h => h) (yieldsP_grid (by kernel_rfl) _ rfl w.heap.size rfl g (fun W hW => GridAt.below HGG.out hW.out)) hH ?_
              simp only [Act.put, List.setIfInBounds_toArray, List.set_cons_zero, List.set_cons_succ, List.getElem_toArray, List.getElem_cons_zero, List.getElem_cons_succ]
              refine wpAnyH_take (i := 1) (v := .pointer (some ⟨wi.heap.size, 0, none⟩)) rfl (by kernel_rfl) (by kernel_rfl) (by kernel_rfl) (fun _ _ _ h => h) (.inl ⟨by kernel_rfl, fun W hW => by (go_simp; done)⟩) hH ?_
              simp only [Act.put, List.setIfInBounds_toArray, List.set_cons_zero, List.set_cons_succ, List.getElem_toArray, List.getElem_cons_zero, List.getElem_cons_succ]
              refine wpAnyH_take (i := 2) rfl (by kernel_rfl) (by kernel_rfl) (by kernel_rfl) (fun _ _ _ h => h) (yieldsP_int (by kernel_rfl) _ rfl ⟨wi.heap.size, 0, none⟩ rfl (mx_ : Int) (fun W hW => (blk_cell (blk_below HBL.out hW.out) 0).trans rfl)) hH ?_
              simp only [Act.put, List.setIfInBounds_toArray, List.set_cons_zero, List.set_cons_succ, List.getElem_toArray, List.getElem_cons_zero, List.getElem_cons_succ]
              refine wpAnyH_take (i := 3) (v := .pointer (some ⟨wi.heap.size, 1, none⟩)) rfl (by kernel_rfl) (by kernel_rfl) (by kernel_rfl) (fun _ _ _ h => h) (.inl ⟨by kernel_rfl, fun W hW => by (go_simp; done)⟩) hH ?_
              simp only [Act.put, List.setIfInBounds_toArray, List.set_cons_zero, List.set_cons_succ, List.getElem_toArray, List.getElem_cons_zero, List.getElem_cons_succ]
              refine wpAnyH_take (i := 4) rfl (by kernel_rfl) (by kernel_rfl) (by kernel_rfl) (fun _ _ _ h => h) (yieldsP_int (by kernel_rfl) _ rfl ⟨wi.heap.size, 1, none⟩ rfl (my : Int) (fun W hW => (blk_cell (blk_below HBL.out hW.out) 1).trans rfl)) hH ?_
              simp only [Act.put, List.setIfInBounds_toArray, List.set_cons_zero, List.set_cons_succ, List.getElem_toArray, List.getElem_cons_zero, List.getElem_cons_succ]
              refine wpAnyH_ready (rs := [5]) (by kernel_rfl) (by simp) ?_
              refine AllReadyH.cons (i := 5) rfl ?_ AllReadyH.nil
              intro K hK
              rw [if_pos (by rfl)]
              go_simp
              go_wp2_with (first | (go_at_call 58; refine (has_calls _ _ _ _).mono ?_; rintro e W4 ⟨rfl, hb⟩))
              refine hK.out _ _ ⟨below_then hH.out hH.out.size hb⟩ (fun hH1 => ?_)
              clear hK K hb hH
              have hH := hH1
              clear hH1
              try rw [hv]
              try simp only [Act.put, List.setIfInBounds_toArray, List.set_cons_zero, List.set_cons_succ, List.getElem_toArray, List.getElem_cons_zero, List.getElem_cons_succ]
              refine wpAnyH_take (i := 6) (v := .bool true) rfl (by kernel_rfl) (by kernel_rfl) (by kernel_rfl) (fun _ _ _ h => h) (.inl ⟨by kernel_rfl, fun W hW => by (go_simp; done)⟩) hH ?_
              simp only [Act.put, List.setIfInBounds_toArray, List.set_cons_zero, List.set_cons_succ, List.getElem_toArray, List.getElem_cons_zero, List.getElem_cons_succ]
              refine wpAnyH_take (i := 7) (v := .pointer (some ⟨wi.heap.size, 1, none⟩)) rfl (by kernel_rfl) (by kernel_rfl) (by kernel_rfl) (fun _ _ _ h => h) (.inl ⟨by kernel_rfl, fun W hW => by (go_simp; done)⟩) hH ?_
              simp only [Act.put, List.setIfInBounds_toArray, List.set_cons_zero, List.set_cons_succ, List.getElem_toArray, List.getElem_cons_zero, List.getElem_cons_succ]
              refine wpAnyH_take (i := 8) rfl (by kernel_rfl) (by kernel_rfl) (by kernel_rfl) (fun _ _ _ h => h) (yieldsP_int (by kernel_rfl) _ rfl ⟨wi.heap.size, 1, none⟩ rfl (my : Int) (fun W hW => (blk_cell (blk_below HBL.out hW.out) 1).trans rfl)) hH ?_
              simp only [Act.put, List.setIfInBounds_toArray, List.set_cons_zero, List.set_cons_succ, List.getElem_toArray, List.getElem_cons_zero, List.getElem_cons_succ]
              refine wpAnyH_take (i := 9) (v := .pointer (some ⟨wi.heap.size, 0, none⟩)) rfl (by kernel_rfl) (by kernel_rfl) (by kernel_rfl) (fun _ _ _ h => h) (.inl ⟨by kernel_rfl, fun W hW => by (go_simp; done)⟩) hH ?_
              simp only [Act.put, List.setIfInBounds_toArray, List.set_cons_zero, List.set_cons_succ, List.getElem_toArray, List.getElem_cons_zero, List.getElem_cons_succ]
              refine wpAnyH_take (i := 10) rfl (by kernel_rfl) (by kernel_rfl) (by kernel_rfl) (fun _ _ _ h => h) (yieldsP_int (by kernel_rfl) _ rfl ⟨wi.heap.size, 0, none⟩ rfl (mx_ : Int) (fun W hW => (blk_cell (blk_below HBL.out hW.out) 0).trans rfl)) hH ?_
              simp only [Act.put, List.setIfInBounds_toArray, List.set_cons_zero, List.set_cons_succ, List.getElem_toArray, List.getElem_cons_zero, List.getElem_cons_succ]
              refine wpAnyH_take (i := 11) (v := .pointer (some ⟨w.heap.size + 1 + 1, my * 16, none⟩)) rfl (by kernel_rfl) (by kernel_rfl) (by kernel_rfl) (fun _ _ _ h => h) (.inl ⟨by kernel_rfl, fun W hW => by (go_simp; intro h_; omega)⟩) hH ?_
              simp only [Act.put, List.setIfInBounds_toArray, List.set_cons_zero, List.set_cons_succ, List.getElem_toArray, List.getElem_cons_zero, List.getElem_cons_succ]
              refine wpAnyH_take (i := 12) (v := .pointer (some ⟨w.heap.size + 1 + 1, my * 16 + mx_, none⟩)) rfl (by kernel_rfl) (by kernel_rfl) (by kernel_rfl) (fun _ _ _ h => h) (.inl ⟨by kernel_rfl, fun W hW => by (go_simp; intro h_; omega)⟩) hH ?_
              simp only [Act.put, List.setIfInBounds_toArray, List.set_cons_zero, List.set_cons_succ, List.getElem_toArray, List.getElem_cons_zero, List.getElem_cons_succ]
              refine wpAnyH_take (i := 13) rfl (by kernel_rfl) (by kernel_rfl) (by kernel_rfl) (fun _ _ _ h => h) (yieldsP_bool (by kernel_rfl) _ rfl ⟨w.heap.size + 1 + 1, my * 16 + mx_, none⟩ rfl false (fun W hW => (GridAt.cell (GridAt.below HGO.out hW.out) (my * 16 + mx_) (by omega)).trans (by rw [ho]))) hH ?_
              simp only [Act.put, List.setIfInBounds_toArray, List.set_cons_zero, List.set_cons_succ, List.getElem_toArray, List.getElem_cons_zero, List.getElem_cons_succ]
              refine wpAnyH_take (i := 14) (v := .bool (!false)) rfl (by kernel_rfl) (by kernel_rfl) (by kernel_rfl) (fun _ _ _ h => h) (.inl ⟨by kernel_rfl, fun W hW => by (go_simp; done)⟩) hH ?_
              simp only [Act.put, List.setIfInBounds_toArray, List.set_cons_zero, List.set_cons_succ, List.getElem_toArray, List.getElem_cons_zero, List.getElem_cons_succ]
              refine wpAnyH_take (i := 15) (v := .bool (!false)) rfl (by kernel_rfl) (by kernel_rfl) (by kernel_rfl) (fun _ _ _ h => h) (.inl ⟨by kernel_rfl, fun W hW => by (go_simp; done)⟩) hH ?_
              simp only [Act.put, List.setIfInBounds_toArray, List.set_cons_zero, List.set_cons_succ, List.getElem_toArray, List.getElem_cons_zero, List.getElem_cons_succ]
              refine wpAnyH_done (by kernel_rfl) ?_ _
              go_upto_region 11 with (fail)
              have hq1 := (blk_cell (blk_below HBL.out hH.out) 0).trans (show (#[.int .i64 (mx_ : Int), .int .i64 (my : Int)] : Array Value)[0]? = some (.int .i64 (mx_ : Int)) from rfl)
              have hq2 := (blk_cell (blk_below HBL.out hH.out) 1).trans (show (#[.int .i64 (mx_ : Int), .int .i64 (my : Int)] : Array Value)[1]? = some (.int .i64 (my : Int)) from rfl)
              have HQ4 := Aside0.mk (Kd.Q_below (Kd.Q_alloc HV.out.1 (.cells #[.int .i64 (mx_ : Int), .int .i64 (my : Int)] 102)) hH.out)
              have HG4 := Aside0.mk (GridAt.below HGG.out hH.out)
              have HO4 := Aside0.mk (GridAt.below HGO.out hH.out)
              have HZ4 := Aside0.mk (GridAt.below (GridAt.alloc HV.out.2.2.1 (.cells #[.int .i64 (mx_ : Int), .int .i64 (my : Int)] 102)) hH.out)
              have HB4 := Aside0.mk (below_then (below_alloc HV.out.2.2.2.2 (.cells #[.int .i64 (mx_ : Int), .int .i64 (my : Int)] 102)) (below_alloc HV.out.2.2.2.2 _).size hH.out)
              have hwi : w.heap.size + 2 < wi.heap.size := GridAt.lt HV.out.2.2.2.1
              clear hH
              refine wp_region_held_drew (S := fun W => Aside0 (W.cell? ⟨wi.heap.size, 0, none⟩ = some (.int .i64 (mx_ : Int)) ∧ W.cell? ⟨wi.heap.size, 1, none⟩ = some (.int .i64 (my : Int)))) (by kernel_rfl) ⟨hq1, hq2⟩ (fun hH => ?_)
              obtain ⟨W5, hW5⟩ : ∃ W, W = W4.drew := ⟨_, rfl⟩
              rw [← hW5] at hH ⊢
              have HQ5 : Aside0 (kQ.Q 102 W5 w.heap.size (fun _ => True) u8 qs') := Aside0.mk (by rw [hW5]; exact Kd.Q_drew HQ4.out)
              have HG5 : Aside0 (W5.heap[w.heap.size]? = some (.cells (gc g) 75 (0, 0))) := Aside0.mk (by rw [hW5]; exact HG4.out)
              have HZ5 : Aside0 (W5.heap[w.heap.size + 1]? = some (.cells (gc fun _ => false) 75 (0, 0))) := Aside0.mk (by rw [hW5]; exact HZ4.out)
              have HO5 : Aside0 (GridAt W5 (w.heap.size + 2) out') := Aside0.mk (by rw [hW5]; exact HO4.out)
              have HB5 : Aside0 (Below w.heap.size w W5) := Aside0.mk (by rw [hW5]; exact below_drew HB4.out)
              clear hW5 hq1 hq2 HQ4 HG4 HZ4 HO4 HB4
              refine wpAnyH_take (i := 0) (v := .pointer (some ⟨wi.heap.size, 1, none⟩)) rfl (by kernel_rfl) (by kernel_rfl) (by kernel_rfl) (fun _ _ _ h => h) (.inl ⟨by kernel_rfl, fun W hW => by (go_simp; done)⟩) hH ?_
              simp only [Act.put, List.setIfInBounds_toArray, List.set_cons_zero, List.set_cons_succ, List.getElem_toArray, List.getElem_cons_zero, List.getElem_cons_succ]
              refine wpAnyH_take (i := 1) rfl (by kernel_rfl) (by kernel_rfl) (by kernel_rfl) (fun _ _ _ h => h) (yieldsP_int (by kernel_rfl) _ rfl ⟨wi.heap.size, 1, none⟩ rfl (my : Int) (fun W hW => hW.out.2)) hH ?_
              simp only [Act.put, List.setIfInBounds_toArray, List.set_cons_zero, List.set_cons_succ, List.getElem_toArray, List.getElem_cons_zero, List.getElem_cons_succ]
              refine wpAnyH_take (i := 2) (v := .pointer (some ⟨wi.heap.size, 0, none⟩)) rfl (by kernel_rfl) (by kernel_rfl) (by kernel_rfl) (fun _ _ _ h => h) (.inl ⟨by kernel_rfl, fun W hW => by (go_simp; done)⟩) hH ?_
              simp only [Act.put, List.setIfInBounds_toArray, List.set_cons_zero, List.set_cons_succ, List.getElem_toArray, List.getElem_cons_zero, List.getElem_cons_succ]
              refine wpAnyH_take (i := 3) rfl (by kernel_rfl) (by kernel_rfl) (by kernel_rfl) (fun _ _ _ h => h) (yieldsP_int (by kernel_rfl) _ rfl ⟨wi.heap.size, 0, none⟩ rfl (mx_ : Int) (fun W hW => hW.out.1)) hH ?_
              simp only [Act.put, List.setIfInBounds_toArray, List.set_cons_zero, List.set_cons_succ, List.getElem_toArray, List.getElem_cons_zero, List.getElem_cons_succ]
              refine wpAnyH_take (i := 4) (v := .pointer (some ⟨w.heap.size + 1 + 1, my * 16, none⟩)) rfl (by kernel_rfl) (by kernel_rfl) (by kernel_rfl) (fun _ _ _ h => h) (.inl ⟨by kernel_rfl, fun W hW => by (go_simp; intro h_; omega)⟩) hH ?_
              simp only [Act.put, List.setIfInBounds_toArray, List.set_cons_zero, List.set_cons_succ, List.getElem_toArray, List.getElem_cons_zero, List.getElem_cons_succ]
              refine wpAnyH_take (i := 5) (v := .pointer (some ⟨w.heap.size + 1 + 1, my * 16 + mx_, none⟩)) rfl (by kernel_rfl) (by kernel_rfl) (by kernel_rfl) (fun _ _ _ h => h) (.inl ⟨by kernel_rfl, fun W hW => by (go_simp; intro h_; omega)⟩) hH ?_
              simp only [Act.put, List.setIfInBounds_toArray, List.set_cons_zero, List.set_cons_succ, List.getElem_toArray, List.getElem_cons_zero, List.getElem_cons_succ]
              have hco := HO5.out.cell (my * 16 + mx_) (by omega)
              have hcf := HO5.out.free (my * 16 + mx_)
              refine wpAnyH_ready (rs := [6]) (by kernel_rfl) (by simp) ?_
              refine AllReadyH.cons (i := 6) rfl ?_ AllReadyH.nil
              intro K hK
              rw [if_pos (by rfl)]
              go_simp
              have HQ6 := Aside0.mk (Kd.Q_set HQ5.out HO5.out (by decide) (my * 16 + mx_) (.bool true))
              have HG6 := Aside0.mk (blk_far HG5.out (show w.heap.size ≠ (⟨w.heap.size + 2, my * 16 + mx_, none⟩ : Addr).block by simp) (.bool true))
              have HZ6 := Aside0.mk (blk_far HZ5.out (show w.heap.size + 1 ≠ (⟨w.heap.size + 2, my * 16 + mx_, none⟩ : Addr).block by simp) (.bool true))
              have HO6 : Aside0 ((W5.setCell ⟨w.heap.size + 2, my * 16 + mx_, none⟩ (.bool true)).heap[w.heap.size + 2]? = some (.cells (gc fun p => if p = my * 16 + mx_ then true else out' p) 75 (0, 0))) := Aside0.mk (HO5.out.set_ (my * 16 + mx_) true)
              have HB6 := Aside0.mk (below_set (g := w.heap.size + 2) (j := my * 16 + mx_) (v := .bool true) HB5.out (by omega))
              have hH1 : Aside0 ((W5.setCell ⟨w.heap.size + 2, my * 16 + mx_, none⟩ (.bool true)).cell? ⟨wi.heap.size, 0, none⟩ = some (.int .i64 (mx_ : Int)) ∧ (W5.setCell ⟨w.heap.size + 2, my * 16 + mx_, none⟩ (.bool true)).cell? ⟨wi.heap.size, 1, none⟩ = some (.int .i64 (my : Int))) := ⟨(World.cell?_setCell_far W5 _ _ _ (by show w.heap.size + 2 ≠ wi.heap.size; omega)).trans hH.out.1, (World.cell?_setCell_far W5 _ _ _ (by show w.heap.size + 2 ≠ wi.heap.size; omega)).trans hH.out.2⟩
              refine hK.out _ _ hH1 (fun _ => ?_)
              clear hK K hH hco hcf
              obtain ⟨W6, hW6⟩ : ∃ W, W = W5.setCell ⟨w.heap.size + 2, my * 16 + mx_, none⟩ (.bool true) := ⟨_, rfl⟩
              have hW6' : W5.setCell ⟨w.heap.size + 1 + 1, my * 16 + mx_, none⟩ (.bool true) = W6 := hW6.symm
              rw [← hW6] at HQ6 HG6 HZ6 HO6 HB6 hH1
              (rw [hW6'])
              clear hW6 hW6'
              have hq1 := hH1.out.1
              have hq2 := hH1.out.2
              try simp only [Act.put, List.setIfInBounds_toArray, List.set_cons_zero, List.set_cons_succ, List.getElem_toArray, List.getElem_cons_zero, List.getElem_cons_succ]
              refine wpAnyH_done (by kernel_rfl) ?_ _
              have hpz : my * 16 + mx_ < 256 := by omega
              have HPU := Aside0.mk (mid_push (todo' := (qs' ++ [((mx_ : Int), (my : Int))]).map posI) HM2.out hv (by rw [Int.toNat_natCast, Int.toNat_natCast]; exact HAD.out) (fun q hq => by rw [List.map_append, List.mem_append] at hq; rcases hq with hq | hq; exact .inr hq; left; simpa [posI] using hq) (fun q hq => by rw [List.map_append, List.mem_append]; exact .inl hq) (by rw [List.map_append, List.mem_append]; right; simp [posI]))
              rw [Int.toNat_natCast, Int.toNat_natCast] at HPU
              have HUN := Aside0.mk (unseen_set out' (my * 16 + mx_) hpz ho)
              clear hpz ho
              go_wp2_with (first
                | ((with_reducible refine gate_builtin (b := .append) (xs := #[.tmp 59, .tmp 61]) rfl ?_); at_builtin; refine Kd.Q_append kQ (w0 := w) w.heap.size rfl (.tmp 59) (.tmp 61) 103 102 (.agg #[.int .i64 0, .int .i64 0]) 16 rfl Try.underlying103 infoQ rfl (by decide) (by omega) u8 qs' ((mx_ : Int), (my : Int)) [.int .i64 (mx_ : Int), .int .i64 (my : Int)] (fun _ => True) (fun _ => False) rfl ?aX ?aP (fun _ hk => hk.elim) (fun _ _ => trivial) HQ6.out HB6.out HB6.out.size ?aL ?_; (case aX => rfl); (case aP => exact kQ_M _ _ _ _ _); (case aL => (have hl_ := HT.out.2.2.1; omega)); intro v7 W7 ho hb hg hat; have HQ7 := Aside0.mk ho; have HB7 := Aside0.mk hb; have HG7 : Aside0 (GridAt W7 w.heap.size g) := Aside0.mk (blk_grown HG6.out hg (Kd.Q_ne HQ6.out HG6.out (by decide))); have HZ7 : Aside0 (GridAt W7 (w.heap.size + 1) (fun _ => false)) := Aside0.mk (blk_grown HZ6.out hg (Kd.Q_ne HQ6.out HZ6.out (by decide))); have HO7 : Aside0 (GridAt W7 (w.heap.size + 2) (fun p => if p = my * 16 + mx_ then true else out' p)) := Aside0.mk (blk_grown HO6.out hg (Kd.Q_ne HQ6.out HO6.out (by decide))); clear ho hb hg hat))
              go_roundw
              case rel => exact ⟨_, qs' ++ [((mx_ : Int), (my : Int))], i + 1, by go_num, by omega, ⟨HQ7.out, HG7.out, HZ7.out, HO7.out, HB7.out⟩, ⟨HPU.out, fun q hq => by
                rcases List.mem_append.1 hq with hq | hq
                · exact HT.out.2.1 q hq
                · rw [List.mem_singleton] at hq; subst hq; simp only; omega, by have h1 := HUN.out; have h2 := HT.out.2.2.1; rw [List.length_append, List.length_singleton]; omega, by have h1 := HUN.out; have h2 := HT.out.2.2.2; rw [List.length_append, List.length_singleton]; omega⟩⟩
              case measure => simp [intOf]; omega
        · have hi4 : i = 4 := by omega
          subst hi4
          go_wp2
          go_roundw
          case rel => exact ⟨out', qs', y0 * 16 + x0, HV, ⟨HT.out.1, HT.out.2.1, HT.out.2.2.1⟩⟩
          case measure =>
            obtain ⟨A2, c2, e2, _⟩ := Kd.Q_slice HV.out.1
            have h1 := unseen_out HV.out.2.2.2.1
            have h2 := HMS.out
            have h3 := HT.out.2.2.2
            have h5 := HUE.out
            subst e2
            show 2 * unseen (outOf wi (w.heap.size + 2)) + qs'.length < 2 * unseen (outOf wo (w.heap.size + 2)) + n
            rw [h1, h2]
            omega

/- impl.partsOf: the connected parts of a region, as runs. -/

/-- the parts that begin at pixels of a list, but for what has been seen -/
noncomputable def partsFrom (g : Nat → Bool) : List Nat → (Nat → Bool) → List (List S47)
  | [], _ => []
  | p :: ps, seen => if seen p = true then partsFrom g ps seen else runsL (comp g p) :: partsFrom g ps (gso (fun x y => seen (y * 16 + x) || comp g p (y * 16 + x)) 256)
/-- the pixels of a run from column x on -/
def pixRun (r : S47) (x : Nat) : List Nat := (List.range' x (r.f2.toNat - x)).map fun x => r.f0.toNat * 16 + x
def pixels (l : List S47) : List Nat := l.flatMap fun r => pixRun r r.f1.toNat
theorem pixels_drop (l : List S47) (k : Nat) (h : k < l.length) : pixels (l.drop k) = pixRun l[k] l[k].f1.toNat ++ pixels (l.drop (k + 1)) := by
  rw [List.drop_eq_getElem_cons h]; rfl
theorem pixRun_in (r : S47) (x : Nat) (h : (x : Int) < r.f2) : pixRun r x = (r.f0.toNat * 16 + x) :: pixRun r (x + 1) := by
  unfold pixRun
  rw [show r.f2.toNat - x = (r.f2.toNat - (x + 1)) + 1 by omega, List.range'_succ, List.map_cons]
theorem pixRun_end (r : S47) (x : Nat) (h : ¬ (x : Int) < r.f2) : pixRun r x = [] := by
  unfold pixRun
  rw [show r.f2.toNat - x = 0 by omega]; rfl
theorem unseen_add (seen c : Nat → Bool) (p : Nat) (hp : p < 256) (h : seen p = false) (hc : c p = true) : unseen (fun q => seen q || c q) + 1 ≤ unseen seen := by
  have h1 := unseen_set seen p hp h
  have h2 : unseen (fun q => seen q || c q) ≤ unseen (fun q => if q = p then true else seen q) := by
    unfold unseen
    refine List.countP_mono_left (fun q _ hq => ?_)
    have hq' : (!(seen q || c q)) = true := hq
    show (!(if q = p then true else seen q)) = true
    by_cases e : q = p
    · subst e; rw [hc] at hq'; simp at hq'
    · rw [if_neg e]
      cases hs : seen q with
      | false => rfl
      | true => rw [hs] at hq'; simp at hq'
  omega

set_option maxHeartbeats 1600000 in
set_option maxRecDepth 100000 in
theorem parts1_calls (g e : Nat → Bool) (x y : Nat) (hx : x < 16) (hy : y < 16) (B1 B2 : Nat) (w : World) (h1 : GridAt w B1 g) (h2 : GridAt w B2 e) :
    Calls Try.prog 103 #[.int .i64 (x : Int), .int .i64 (y : Int), .pointer (some ⟨B1, 0, none⟩), .pointer (some ⟨B2, 0, none⟩)] w fun e_ w' => e_ = .returned (.bool (g (y * 16 + x) || e (y * 16 + x))) ∧ Below w.heap.size w w' := by
  have c1 := h1.cell (y * 16 + x) (by omega)
  have c2 := h2.cell (y * 16 + x) (by omega)
  clear h1 h2
  cases hp : g (y * 16 + x) <;> cases hq : e (y * 16 + x) <;> rw [hp] at c1 <;> rw [hq] at c2
  all_goals
    clear hp hq
    go_enter Try.func103, Try.ntmps103
    go_wp2
    go_ret
    exact ⟨rfl, Below.refl _ _⟩
theorem setRow_keepQ {W : World} {k g : Nat} {o : Obj} (h : W.heap[k]? = some o) (cs : Array Value) (hk : k ≠ g) : (W.setRow g cs).heap[k]? = some o := (setRow_other W g k cs hk).trans h

set_option maxHeartbeats 1600000 in
set_option maxRecDepth 100000 in
theorem partsOf_calls (A0 : Option Addr) (c0 : Nat) (l0 : List S47) (w : World) (hr0 : Kd.C k47 w A0 l0.length l0) (hok : ∀ r ∈ l0, 0 ≤ r.f0 ∧ r.f0 < 16 ∧ 0 ≤ r.f1 ∧ r.f2 ≤ 16) :
    Calls Try.prog 75 #[.slice A0 l0.length c0] w fun e w' => ∃ v0_ : Value, e = .returned v0_ ∧ Kd.S (Kd.slice 47 k47) 26 w' w.heap.size (fun _ => True) v0_ (partsFrom (gridF l0) (pixels l0) (fun _ => false)) ∧ Below w.heap.size w w' := by
  have hm : l0.length ≤ 9223372036854775807 := hr0.2.1
  have HR := Aside0.mk hr0
  have HOK := Aside0.mk hok
  clear hr0 hok
  have z0 := zero66
  have HSZ := Aside0.mk (fun g g' : Nat → Bool => show (gc g).size = (gc g').size by rw [gc_size, gc_size])
  have HO := Aside0.mk (fun g : Nat → Bool => gc_one g)
  have HI := Aside0.mk (fun g : Nat → Bool => show (Try.prog.info? 75).map (·.size) = some (gc g).size by rw [gc_size]; exact info66)
  obtain ⟨gF, hgF⟩ : ∃ gF, gF = gridF l0 := ⟨_, rfl⟩
  have HGC := Aside0.mk (gridOf_calls A0 c0 l0 w HR.out HOK.out)
  rw [← hgF] at HGC ⊢
  clear hgF
  go_enter Try.func75, Try.ntmps75
  go_wp2_with (first
    | (go_at_call 57; refine HGC.out.mono ?_; rintro e w1 ⟨rfl, hb1⟩; have HB1 := Aside0.mk hb1; clear hb1;
        have HN1 : Aside0 ((w1.alloc (.cells (gc fun _ => false) 75)).heap[w1.heap.size]? = some (.cells (gc fun _ => false) 75 (0, 0))) := Aside0.mk (blk_new _ _);
        have HN2 : Aside0 ((((w1.alloc (.cells (gc fun _ => false) 75)).setRow w1.heap.size (gc gF)).alloc (.cells (gc fun _ => false) 75)).heap[w1.heap.size + 1]? = some (.cells (gc fun _ => false) 75 (0, 0))) := Aside0.mk (by have h := blk_new ((w1.alloc (.cells (gc fun _ => false) 75)).setRow w1.heap.size (gc gF)) (.cells (gc fun _ => false) 75); rw [setRow_size] at h; simp only [World.size_alloc] at h; exact h);
        have HG2 : Aside0 (GridAt ((((w1.alloc (.cells (gc fun _ => false) 75)).setRow w1.heap.size (gc gF)).alloc (.cells (gc fun _ => false) 75)).setRow (w1.heap.size + 1) (gc fun _ => false)) w1.heap.size gF) := Aside0.mk (setRow_keepQ (blk_alloc (GridAt.setRow (g := fun _ => false) HN1.out gF) (.cells (gc fun _ => false) 75)) _ (by omega));
        have HS2 : Aside0 (GridAt ((((w1.alloc (.cells (gc fun _ => false) 75)).setRow w1.heap.size (gc gF)).alloc (.cells (gc fun _ => false) 75)).setRow (w1.heap.size + 1) (gc fun _ => false)) (w1.heap.size + 1) (fun _ => false)) := Aside0.mk (GridAt.setRow (g := fun _ => false) HN2.out _);
        have HB2 := Aside0.mk (below_setRow (below_alloc (below_setRow (below_alloc HB1.out (.cells (gc fun _ => false) 75)) HB1.out.size (gc gF)) (.cells (gc fun _ => false) 75)) (Nat.le_succ_of_le HB1.out.size) (gc fun _ => false)))
    | ((with_reducible refine wpList_store_row rfl 75 (.tmp 3) (.tmp 11) rfl w1.heap.size (gc gF) ?hx ?hy 75 (gc fun _ => false) HN1.out (HI.out _) (HSZ.out _ _) (HO.out _) ?_); (case hx => rfl); (case hy => rfl))
    | ((with_reducible refine wpList_store_row rfl 75 (.tmp 4) (.tmp 12) rfl (w1.heap.size + 1) (gc fun _ => false) ?hx ?hy 75 (gc fun _ => false) HN2.out (HI.out _) (HSZ.out _ _) (HO.out _) ?_); (case hx => rfl); (case hy => rfl)))
  have HBW := Aside0.mk HB1.out.size
  obtain ⟨B, hB⟩ : ∃ B, B = w1.heap.size := ⟨_, rfl⟩
  go_loopw [5, 16] (fun v5 v16 W => ∃ (k : Nat) (seen : Nat → Bool) (parts : List (List S47)), v16 = .int .i64 k ∧ k ≤ l0.length ∧
    Aside0 (Kd.S (Kd.slice 47 k47) 26 W w.heap.size (fun _ => True) v5 parts ∧ GridAt W w1.heap.size gF ∧ GridAt W (w1.heap.size + 1) seen ∧ Below w.heap.size w W) ∧
    Aside0 (parts ++ partsFrom gF (pixels (l0.drop k)) seen = partsFrom gF (pixels l0) (fun _ => false) ∧ parts.length + unseen seen ≤ 256)) (fun _ v16 _ => l0.length - (intOf v16).toNat)
  case atStart =>
    have h : Kd.S (Kd.slice 47 k47) 26 _ _ _ _ [] := ⟨fun _ => 0, R_empty (Kd.tag (fun _ => 0) (Kd.slice 47 k47)) 26 w.heap.size ((((w1.alloc (.cells (gc fun _ => false) 75)).setRow w1.heap.size (gc gF)).alloc (.cells (gc fun _ => false) 75)).setRow (w1.heap.size + 1) (gc fun _ => false)) HB2.out.size⟩
    simp only [World.size_alloc, setRow_size] at h
    refine ⟨0, (fun _ => false), [], rfl, by omega, ⟨h, HG2.out.alloc _, HS2.out.alloc _, below_alloc HB2.out _⟩, ⟨rfl, ?_⟩⟩
    have h2 : unseen (fun _ => false) = 256 := by simp [unseen]
    rw [h2]; simp
  case round =>
    obtain ⟨k, seen, parts, rfl, hk, HW, HT⟩ := hrel
    clear HN1 HN2 HG2 HS2 HB2
    obtain ⟨wo, rfl⟩ : ∃ wo : World, wo = wr := ⟨_, rfl⟩
    by_cases hlt : k < l0.length
    · have hdk : decide ((k : Int) < (l0.length : Int)) = true := by simp; omega
      obtain ⟨ad, e, hx0, hx1, hx2⟩ := at_T47 HR.out (k : Int) (by omega) (by omega)
      cases e
      have er : rd_T47 l0 (k : Int) = l0[k] := by simp [rd_T47, hlt]
      have ho := HOK.out l0[k] (List.getElem_mem hlt)
      have HPD := Aside0.mk (pixels_drop l0 k hlt)
      rw [er, Int.toNat_natCast] at hx0 hx1 hx2
      clear er
      generalize l0[k] = r at *
      obtain ⟨Y, hY⟩ := Int.eq_ofNat_of_zero_le ho.1
      obtain ⟨F, hF⟩ := Int.eq_ofNat_of_zero_le ho.2.2.1
      have ho2 := ho.2.1
      have ho4 := ho.2.2.2
      clear ho
      rw [hY] at hx0 ho2
      rw [hF] at hx1
      replace hx0 := (HW.out.2.2.2.cell (World.block_lt_of_cell? w _ hx0)).trans hx0
      replace hx1 := (HW.out.2.2.2.cell (World.block_lt_of_cell? w _ hx1)).trans hx1
      replace hx2 := (HW.out.2.2.2.cell (World.block_lt_of_cell? w _ hx2)).trans hx2
      have HY := Aside0.mk hY
      have HF := Aside0.mk hF
      clear hY hF
      go_wp2
      have hlt2 := HW.out.2.2.1.lt
      have HT1 := Aside0.mk (show parts ++ partsFrom gF (pixRun r F ++ pixels (l0.drop (k + 1))) seen = partsFrom gF (pixels l0) (fun _ => false) from by have h := HT.out.1; rw [HPD.out, HF.out, Int.toNat_natCast] at h; exact h)
      go_loopw [5, 8] (fun v5 v8 W => ∃ (x : Nat) (seen' : Nat → Bool) (parts' : List (List S47)), v8 = .int .i64 x ∧ F ≤ x ∧ ((x : Int) ≤ r.f2 ∨ x = F) ∧
        Aside0 (Kd.S (Kd.slice 47 k47) 26 W w.heap.size (fun _ => True) v5 parts' ∧ GridAt W w1.heap.size gF ∧ GridAt W (w1.heap.size + 1) seen' ∧ Below w.heap.size w W) ∧
        Aside0 (W.heap[wo.heap.size]? = some (.cells #[.int .i64 (Y : Int), .int .i64 (F : Int), .int .i64 r.f2] 47 (0, 0))) ∧
        Aside0 (parts' ++ partsFrom gF (pixRun r x ++ pixels (l0.drop (k + 1))) seen' = partsFrom gF (pixels l0) (fun _ => false) ∧ parts'.length + unseen seen' ≤ 256)) (fun _ v8 _ => 17 - (intOf v8).toNat + (r.f2 - (intOf v8)).toNat)
      case atStart =>
        exact ⟨F, seen, parts, rfl, Nat.le_refl _, .inr rfl, ⟨Kd.S_alloc HW.out.1 _, HW.out.2.1.alloc _, HW.out.2.2.1.alloc _, below_alloc HW.out.2.2.2 _⟩, ⟨blk_new _ _⟩, ⟨HT1.out, HT.out.2⟩⟩
      case round =>
        obtain ⟨x, seen', parts', rfl, hFx, hx, HV, HK, HU⟩ := hrel
        clear HT1 hx0 hx1 hx2
        obtain ⟨wi, rfl⟩ : ∃ wi : World, wi = wr := ⟨_, rfl⟩
        have hc0 : wi.cell? ⟨wo.heap.size, 0, none⟩ = some (.int .i64 (Y : Int)) := (blk_cell HK.out 0).trans rfl
        have hc2 : wi.cell? ⟨wo.heap.size, 2, none⟩ = some (.int .i64 r.f2) := (blk_cell HK.out 2).trans rfl
        by_cases hxt : (x : Int) < r.f2
        · have hdx : decide ((x : Int) < r.f2) = true := by simpa using hxt
          have hx16 : x < 16 := by omega
          have hY16 : Y < 16 := by omega
          have hcs := HV.out.2.2.1.cell (Y * 16 + x) (by omega)
          have HPI := Aside0.mk (pixRun_in r x hxt)
          cases hs : seen' (Y * 16 + x) with
          | true =>
            rw [hs] at hcs
            have HU2 := Aside0.mk (show parts' ++ partsFrom gF (pixRun r (x + 1) ++ pixels (l0.drop (k + 1))) seen' = partsFrom gF (pixels l0) (fun _ => false) from by
              have h := HU.out.1
              rw [HPI.out, HY.out, Int.toNat_natCast, List.cons_append, partsFrom, if_pos hs] at h
              exact h)
            clear hs
            go_wp2
            go_roundw
            case rel => exact ⟨x + 1, seen', parts', by go_num, by omega, .inl (by omega), HV, HK, ⟨HU2.out, HU.out.2⟩⟩
            case measure => simp [intOf]; omega
          | false =>
            rw [hs] at hcs
            have hg' : wi.heap[w1.heap.size]? = some (.cells (gc gF) 75 (0, 0)) := HV.out.2.1
            have HU2 := Aside0.mk (show (parts' ++ [runsL (comp gF (Y * 16 + x))]) ++ partsFrom gF (pixRun r (x + 1) ++ pixels (l0.drop (k + 1))) (gso (fun x_ y_ => seen' (y_ * 16 + x_) || comp gF (Y * 16 + x) (y_ * 16 + x_)) 256) = partsFrom gF (pixels l0) (fun _ => false) from by
              have h := HU.out.1
              rw [HPI.out, HY.out, Int.toNat_natCast, List.cons_append, partsFrom, if_neg (by rw [hs]; simp)] at h
              rw [List.append_assoc]
              exact h)
            have HUN := Aside0.mk (unseen_add seen' (comp gF (Y * 16 + x)) (Y * 16 + x) (by omega) hs ((comp_iff _ _ _).2 .here))
            clear hs
            go_wp2_with (first
              | ((with_reducible refine gate_dst (N := 34) rfl ?_); refine wpList_load_row rfl 75 (.tmp 3) rfl w1.heap.size rfl 75 (gc gF) (0, 0) (.array 16 73) hg' underlying66 rfl (HI.out _) ?_)
              | (go_at_call 70; refine (part_calls gF x Y hx16 hY16 _).mono ?_; rintro e W3 ⟨rfl, hb3⟩; have HB3 := Aside0.mk hb3; clear hb3;
                  have HN3 : Aside0 ((W3.alloc (.cells (gc fun _ => false) 75)).heap[W3.heap.size]? = some (.cells (gc fun _ => false) 75 (0, 0))) := Aside0.mk (blk_new _ _);
                  have HP4 : Aside0 (GridAt ((W3.alloc (.cells (gc fun _ => false) 75)).setRow W3.heap.size (gc (comp gF (Y * 16 + x)))) W3.heap.size (comp gF (Y * 16 + x))) := Aside0.mk (GridAt.setRow (g := fun _ => false) HN3.out _);
                  have HB4 : Aside0 (Below wi.heap.size wi ((W3.alloc (.cells (gc fun _ => false) 75)).setRow W3.heap.size (gc (comp gF (Y * 16 + x))))) := Aside0.mk (below_setRow (below_alloc HB3.out (.cells (gc fun _ => false) 75)) HB3.out.size _))
              | ((with_reducible refine wpList_store_row rfl 75 (.tmp 9) (.tmp 38) rfl W3.heap.size (gc (comp gF (Y * 16 + x))) ?hx ?hy 75 (gc fun _ => false) HN3.out (HI.out _) (HSZ.out _ _) (HO.out _) ?_); (case hx => rfl); (case hy => rfl))
              | (go_at_call 67; refine (gridBy_calls 103 #[.pointer (some ⟨w1.heap.size + 1, 0, none⟩), .pointer (some ⟨W3.heap.size, 0, none⟩)] (fun x_ y_ => seen' (y_ * 16 + x_) || comp gF (Y * 16 + x) (y_ * 16 + x_)) ((W3.alloc (.cells (gc fun _ => false) 75)).setRow W3.heap.size (gc (comp gF (Y * 16 + x)))) (enters_of Try.func103 (by kernel_rfl) rfl) (fun W a b ha hb hW => parts1_calls seen' (comp gF (Y * 16 + x)) a b ha hb _ _ W (GridAt.below (GridAt.below HV.out.2.2.1 HB4.out) hW) (GridAt.below HP4.out hW))).mono ?_; rintro e W5 ⟨rfl, hb5⟩;
                  have HB5 : Aside0 (Below wi.heap.size wi W5) := Aside0.mk (below_then HB4.out HB4.out.size hb5);
                  have HS5 : Aside0 (W5.heap[w1.heap.size + 1]? = some (.cells (gc seen') 75 (0, 0))) := Aside0.mk (GridAt.below HV.out.2.2.1 HB5.out);
                  have HP6 : Aside0 ((W5.setRow (w1.heap.size + 1) (gc (gso (fun x_ y_ => seen' (y_ * 16 + x_) || comp gF (Y * 16 + x) (y_ * 16 + x_)) 256))).heap[W3.heap.size]? = some (.cells (gc (comp gF (Y * 16 + x))) 75 (0, 0))) := Aside0.mk (setRow_keepQ (GridAt.below HP4.out hb5) _ (by have := HB3.out.size; have := GridAt.lt HV.out.2.2.1; omega));
                  have HR6 := Aside0.mk (Kd.S_mono (Kd.S_move (w1 := W5.setRow (w1.heap.size + 1) (gc (gso (fun x_ y_ => seen' (y_ * 16 + x_) || comp gF (Y * 16 + x) (y_ * 16 + x_)) 256))) (Kd.S_types (Kd.S_below HV.out.1 HB5.out) HS5.out (by decide)) (fun k hk => setRow_other _ _ _ _ hk.2)) (fun _ h => h.1));
                  have HG6 : Aside0 (GridAt (W5.setRow (w1.heap.size + 1) (gc (gso (fun x_ y_ => seen' (y_ * 16 + x_) || comp gF (Y * 16 + x) (y_ * 16 + x_)) 256))) w1.heap.size gF) := Aside0.mk (setRow_keepQ (GridAt.below HV.out.2.1 HB5.out) _ (by omega));
                  have HS6 : Aside0 (GridAt (W5.setRow (w1.heap.size + 1) (gc (gso (fun x_ y_ => seen' (y_ * 16 + x_) || comp gF (Y * 16 + x) (y_ * 16 + x_)) 256))) (w1.heap.size + 1) (gso (fun x_ y_ => seen' (y_ * 16 + x_) || comp gF (Y * 16 + x) (y_ * 16 + x_)) 256)) := Aside0.mk (GridAt.setRow (g := seen') HS5.out _);
                  have HK6 := Aside0.mk (setRow_keepQ (blk_below HK.out HB5.out) (gc (gso (fun x_ y_ => seen' (y_ * 16 + x_) || comp gF (Y * 16 + x) (y_ * 16 + x_)) 256)) (show wo.heap.size ≠ w1.heap.size + 1 by omega));
                  have HB6 := Aside0.mk (below_setRow (below_then HV.out.2.2.2 HV.out.2.2.2.size HB5.out) (show w.heap.size ≤ w1.heap.size + 1 from Nat.le_succ_of_le HBW.out) (gc (gso (fun x_ y_ => seen' (y_ * 16 + x_) || comp gF (Y * 16 + x) (y_ * 16 + x_)) 256)));
                  have HL6 := Aside0.mk (show wi.heap.size ≤ (W5.setRow (w1.heap.size + 1) (gc (gso (fun x_ y_ => seen' (y_ * 16 + x_) || comp gF (Y * 16 + x) (y_ * 16 + x_)) 256))).heap.size by rw [setRow_size]; exact HB5.out.size); clear hb5)
              | ((with_reducible refine wpList_store_row rfl 75 (.tmp 4) (.tmp 40) rfl (w1.heap.size + 1) (gc (gso (fun x_ y_ => seen' (y_ * 16 + x_) || comp gF (Y * 16 + x) (y_ * 16 + x_)) 256)) ?hx ?hy 75 (gc seen') HS5.out (HI.out _) (HSZ.out _ _) (HO.out _) ?_); (case hx => rfl); (case hy => rfl))
              | ((with_reducible refine gate_dst (N := 42) rfl ?_); refine wpList_load_row rfl 75 (.tmp 9) rfl W3.heap.size rfl 75 (gc (comp gF (Y * 16 + x))) (0, 0) (.array 16 73) HP6.out underlying66 rfl (HI.out _) ?_)
              | (go_at_call 71; refine (runs_calls (comp gF (Y * 16 + x)) (W5.setRow (w1.heap.size + 1) (gc (gso (fun x_ y_ => seen' (y_ * 16 + x_) || comp gF (Y * 16 + x) (y_ * 16 + x_)) 256)))).mono ?_; rintro e W7 ⟨v7, rfl, hr7, hb7⟩; obtain ⟨A7, c7, hv7, _⟩ := Kd.Q_slice (Kd.Q_of_R hr7); subst hv7;
                  have HV7 := Aside0.mk (Kd.R_lower (Kd.R_mono (Kd.R_bound hr7) (fun k hk => hk.2.1)) HB6.out.size);
                  have HR7 := Aside0.mk (Kd.S_below (Kd.S_mono (Kd.S_bound HR6.out) (fun k hk => (⟨trivial, Nat.not_le.2 hk.2.2.1⟩ : True ∧ ¬ ((W5.setRow (w1.heap.size + 1) (gc (gso (fun x_ y_ => seen' (y_ * 16 + x_) || comp gF (Y * 16 + x) (y_ * 16 + x_)) 256))).heap.size ≤ k)))) hb7); have HG7 := Aside0.mk (GridAt.below HG6.out hb7); have HS7 := Aside0.mk (GridAt.below HS6.out hb7); have HK7 := Aside0.mk (blk_below HK6.out hb7); have HB7 := Aside0.mk (below_then HB6.out HB6.out.size hb7); have HQ7 := Aside0.mk (Kd.S_lt HV.out.1); clear hr7 hb7)
              | ((with_reducible refine gate_builtin (b := .append) (xs := #[.tmp 41, .tmp 44]) rfl ?_); at_builtin; refine Kd.S_append (Kd.slice 47 k47) (w0 := w) w.heap.size rfl (.tmp 41) (.tmp 44) 51 26 (.slice none 0 0) 24 rfl Try.underlying51 info26 rfl (by decide) (by omega) u5 parts' (runsL (comp gF (Y * 16 + x))) [.slice A7 (runsL (comp gF (Y * 16 + x))).length c7] (fun _ => True) (fun k => (W5.setRow (w1.heap.size + 1) (gc (gso (fun x_ y_ => seen' (y_ * 16 + x_) || comp gF (Y * 16 + x) (y_ * 16 + x_)) 256))).heap.size ≤ k) rfl ?aX (Kd.M_row HV7.out) (fun k hk => ⟨trivial, fun e => by have h1 := HQ7.out k e.symm; have h2 := HL6.out; omega⟩) (fun _ _ => trivial) HR7.out HB7.out HB7.out.size ?aL ?_; (case aX => rfl); (case aL => (have hl_ := HU.out.2; omega)); intro v8 W8 ho hb hg hat;
                  have HR8 := Aside0.mk ho; have HB8 := Aside0.mk hb; have HG8 : Aside0 (GridAt W8 w1.heap.size gF) := Aside0.mk (blk_grown HG7.out hg (Kd.S_ne HR7.out HG7.out (by decide))); have HS8 : Aside0 (GridAt W8 (w1.heap.size + 1) (gso (fun x_ y_ => seen' (y_ * 16 + x_) || comp gF (Y * 16 + x) (y_ * 16 + x_)) 256)) := Aside0.mk (blk_grown HS7.out hg (Kd.S_ne HR7.out HS7.out (by decide))); have HK8 := Aside0.mk (blk_grown HK7.out hg (Kd.S_ne HR7.out HK7.out (by decide))); clear ho hb hg hat))
            go_roundw
            case rel => exact ⟨x + 1, (gso (fun x_ y_ => seen' (y_ * 16 + x_) || comp gF (Y * 16 + x) (y_ * 16 + x_)) 256), parts' ++ [runsL (comp gF (Y * 16 + x))], by go_num, by omega, .inl (by omega), ⟨HR8.out, HG8.out, HS8.out, HB8.out⟩, HK8, ⟨HU2.out, by
              have h1 := HUN.out
              have h2 := HU.out.2
              have h3 : unseen (gso (fun x_ y_ => seen' (y_ * 16 + x_) || comp gF (Y * 16 + x) (y_ * 16 + x_)) 256) = unseen (fun q => seen' q || (comp gF (Y * 16 + x)) q) := unseen_congr (fun p hp => by unfold gso; rw [decide_eq_true hp, Bool.true_and]; show (seen' (p / 16 * 16 + p % 16) || comp gF (Y * 16 + x) (p / 16 * 16 + p % 16)) = _; rw [show p / 16 * 16 + p % 16 = p by omega])
              rw [h3, List.length_append, List.length_singleton]
              omega⟩⟩
            case measure => simp [intOf]; omega
        · have hdx : decide ((x : Int) < r.f2) = false := by simpa using hxt
          have HU2 := Aside0.mk (show parts' ++ partsFrom gF (pixels (l0.drop (k + 1))) seen' = partsFrom gF (pixels l0) (fun _ => false) from by
            have h := HU.out.1
            rw [pixRun_end r x hxt, List.nil_append] at h
            exact h)
          go_wp2
          go_roundw
          case rel => exact ⟨k + 1, seen', parts', by go_num, by omega, HV, ⟨HU2.out, HU.out.2⟩⟩
          case measure => simp [intOf]; omega
    · have hdk : decide ((k : Int) < (l0.length : Int)) = false := by simp; omega
      have hkl : k = l0.length := by omega
      subst hkl
      have HE := Aside0.mk (show parts = partsFrom gF (pixels l0) (fun _ => false) from by
        have h := HT.out.1
        rw [List.drop_length] at h
        simpa [pixels, partsFrom] using h)
      go_wp2
      go_ret
      exact ⟨_, rfl, by rw [← HE.out]; exact HW.out.1, HW.out.2.2.2⟩

def impl_bounds.l0 : Nat → List S47 → Int → Int → List S47 → Int → Int → Option (Int × Int × Int × Int)
  | 0, _, _, _, _, _, _ => none
  | k + 1, x0, x3, x4, x9, x10, x11 => if x11 < x10 then (if 0 ≤ x11 then (if x11 < (x9.length : Int) then (impl_bounds.l0 k x0 (mn x3 ((rd_T47 x9 x11).f1)) (mx x4 ((rd_T47 x9 x11).f2)) x9 x10 (wrap64 (x11 + 1))) else none) else none) else (if 0 < (x0.length : Int) then (if 0 ≤ (wrap64 ((x0.length : Int) - 1)) then (if (wrap64 ((x0.length : Int) - 1)) < (x0.length : Int) then (some (x3, (rd_T47 x0 0).f0, wrap64 (x4 - x3), wrap64 ((wrap64 (((rd_T47 x0 (wrap64 ((x0.length : Int) - 1))).f0) - ((rd_T47 x0 0).f0))) + 1))) else none) else none) else none)
def impl_bounds.f (k : Nat) (l0 : List S47) : Option (Int × Int × Int × Int) := impl_bounds.l0 k l0 16 0 l0 (l0.length : Int) 0
theorem impl_bounds.mono_l : ∀ k, (∀ y0 y1 y2 y3 y4 y5, LeO (impl_bounds.l0 k y0 y1 y2 y3 y4 y5) (impl_bounds.l0 (k + 1) y0 y1 y2 y3 y4 y5))
  | 0 => fun _ _ _ _ _ _ r h => by simp [impl_bounds.l0] at h
  | k + 1 => by
    have ih0 := impl_bounds.mono_l k
    · intro y0 y1 y2 y3 y4 y5
      unfold impl_bounds.l0
      repeat' first | (with_reducible exact ih0 _ _ _ _ _ _) | (with_reducible exact LeO.refl _) | (with_reducible refine LeO.ite ?_ ?_)
theorem impl_bounds.mono : ∀ a0 k, LeO (impl_bounds.f k a0) (impl_bounds.f (k + 1) a0) := by
  intro a0 k
  have ih0 := impl_bounds.mono_l k
  unfold impl_bounds.f
  repeat' (with_reducible exact ih0 _ _ _ _ _ _)
set_option maxHeartbeats 8000000 in
set_option maxRecDepth 100000 in
theorem impl_bounds.calls (k : Nat) (A0 : Option Addr) (c0 : Nat) (l0 : List S47) (r1 : Int) (r2 : Int) (r3 : Int) (r4 : Int) (w : World) (hr0 : Kd.C k47 w A0 l0.length l0) (hc0 : l0.length ≤ c0) (h : impl_bounds.f k l0 = some (r1, r2, r3, r4)) :
    Calls Try.prog 78 #[.slice A0 l0.length c0] w fun e w' => e = .returned (.agg #[.int .i64 r1, .int .i64 r2, .int .i64 r3, .int .i64 r4]) ∧ Below w.heap.size w w' := by
  have hu60 := Try.underlying60
  have hu47 := Try.underlying47
  have HR0 := Aside0.mk hr0
  have HC0 := Aside0.mk hc0
  clear hr0 hc0
  have HB := Aside0.mk (Below.refl w.heap.size w)
  have H : (impl_bounds.l0 k l0 16 0 l0 (l0.length : Int) 0) = some (r1, r2, r3, r4) := h
  clear h
  have H' := Aside0.mk H
  clear H
  go_enter Try.func78, Try.ntmps78
  go_wp2_with (first | ((with_reducible refine gate_dst (N := 2) rfl ?_); refine box_event ?hg (N := 2) ?hd (cs := #[.int .i64 0, .int .i64 0, .int .i64 0, .int .i64 0]) (t := 60) ?hr ?_; (case hd => rfl); (case hg => rfl); (case hr => (go_simp; done)); intro gb79001 hg w2 hbox hb; have n0_ := Aside0.mk (below_step HB.out hb); have n1_ := Aside0.mk (hbox); have n2_ := Aside0.mk ((by rw [hg]; exact (below_size HB.out) : w.heap.size ≤ gb79001)); have n3_ := Aside0.mk ((by rw [hg]; exact (below_size HB.out) : w.heap.size ≤ gb79001)); clear HB; have HB := n0_; have BK79001 := n1_; have GW79001 := n2_; have GE79001 := n3_; clear n0_ n1_ n2_ n3_; clear hb hbox hg))
  repeat (go_quiet (first | ((with_reducible refine gate_dst (N := 2) rfl ?_); refine box_event ?hg (N := 2) ?hd (cs := #[.int .i64 0, .int .i64 0, .int .i64 0, .int .i64 0]) (t := 60) ?hr ?_; (case hd => rfl); (case hg => rfl); (case hr => first | (go_simp; done) | (go_simp; rfl)); intro gb79001 hg w2 hbox hb; have n0_ := Aside0.mk (below_step (by repeat (first | (with_reducible first | exact HB.out | apply below_alloc | apply pw_below_drewN | apply below_drew1) | exact HB.out)) hb); have n1_ := Aside0.mk (hbox); have n2_ := Aside0.mk ((by rw [hg]; exact (below_size (by repeat (first | (with_reducible first | exact HB.out | apply below_alloc | apply pw_below_drewN | apply below_drew1) | exact HB.out))) : w.heap.size ≤ gb79001)); have n3_ := Aside0.mk ((by rw [hg]; exact (below_size (by repeat (first | (with_reducible first | exact HB.out | apply below_alloc | apply pw_below_drewN | apply below_drew1) | exact HB.out))) : w.heap.size ≤ gb79001)); clear HB; have HB := n0_; have BK79001 := n1_; have GW79001 := n2_; have GE79001 := n3_; clear n0_ n1_ n2_ n3_; clear hb hbox hg)); try go_wp2_with (first | ((with_reducible refine gate_dst (N := 2) rfl ?_); refine box_event ?hg (N := 2) ?hd (cs := #[.int .i64 0, .int .i64 0, .int .i64 0, .int .i64 0]) (t := 60) ?hr ?_; (case hd => rfl); (case hg => rfl); (case hr => first | (go_simp; done) | (go_simp; rfl)); intro gb79001 hg w2 hbox hb; have n0_ := Aside0.mk (below_step (by repeat (first | (with_reducible first | exact HB.out | apply below_alloc | apply pw_below_drewN | apply below_drew1) | exact HB.out)) hb); have n1_ := Aside0.mk (hbox); have n2_ := Aside0.mk ((by rw [hg]; exact (below_size (by repeat (first | (with_reducible first | exact HB.out | apply below_alloc | apply pw_below_drewN | apply below_drew1) | exact HB.out))) : w.heap.size ≤ gb79001)); have n3_ := Aside0.mk ((by rw [hg]; exact (below_size (by repeat (first | (with_reducible first | exact HB.out | apply below_alloc | apply pw_below_drewN | apply below_drew1) | exact HB.out))) : w.heap.size ≤ gb79001)); clear HB; have HB := n0_; have BK79001 := n1_; have GW79001 := n2_; have GE79001 := n3_; clear n0_ n1_ n2_ n3_; clear hb hbox hg)))
  go_loopg [3, 4, 11] k (fun kq v3 v4 v11 w' => ∃ (x3_1 : Int) (x4_1 : Int) (x11_1 : Int), v3 = .int .i64 x3_1 ∧ v4 = .int .i64 x4_1 ∧ v11 = .int .i64 x11_1 ∧ Aside0 (impl_bounds.l0 kq l0 x3_1 x4_1 l0 (l0.length : Int) x11_1 = some (r1, r2, r3, r4)) ∧ Aside0 (kq ≤ k) ∧ Aside0 (w'.heap[gb79001]? = some (.cells #[.int .i64 0, .int .i64 0, .int .i64 0, .int .i64 0] 60 (0, 0))) ∧ Aside0 (Below w.heap.size w w'))
  case atStart => exact ⟨(16), (0), (0), (by rfl), (by rfl), (by rfl), H', ⟨Nat.le_refl _⟩, ⟨by (with_reducible repeat (first | refine blk_drewN ?_ _ | refine blk_drew ?_ | refine blk_alloc ?_ _)); exact BK79001.out⟩, ⟨by exact HB.out⟩⟩
  case round =>
    clear H'
    try clear p2
    obtain ⟨x3_1, x4_1, x11_1, rfl, rfl, rfl, HA, HK1, BK79001, HB⟩ := hrel
    cases gk with
    | zero => exact absurd HA.out (by simp [impl_bounds.l0])
    | succ k1 =>
      have H := HA.out
      clear HA
      simp only [impl_bounds.l0] at H
      by_cases c3 : x11_1 < (l0.length : Int)
      · rw [if_pos c3] at H
        have c3b0 : decide (x11_1 < (l0.length : Int)) = true := decide_eq_true c3
        clear c3
        by_cases c4 : 0 ≤ x11_1
        · rw [if_pos c4] at H
          have c4b0 : decide (0 ≤ x11_1) = true := decide_eq_true c4
          clear c4
          by_cases c5 : x11_1 < (l0.length : Int)
          · rw [if_pos c5] at H
            have c5b0 : decide (x11_1 < (l0.length : Int)) = true := decide_eq_true c5
            clear c5
            obtain ⟨ji6, hji6⟩ : ∃ j_ : Int, (mn x3_1 ((rd_T47 l0 x11_1).f1)) = j_ := ⟨_, rfl⟩
            replace H : (impl_bounds.l0 k1 l0 ji6 (mx x4_1 ((rd_T47 l0 x11_1).f2)) l0 (l0.length : Int) (wrap64 (x11_1 + 1))) = some (r1, r2, r3, r4) := by (rw [hji6] at H; exact H)
            have hji6_ : (if ((rd_T47 l0 x11_1).f1) < x3_1 then ((rd_T47 l0 x11_1).f1) else x3_1) = ji6 := hji6
            obtain ⟨ji7, hji7⟩ : ∃ j_ : Int, (mx x4_1 ((rd_T47 l0 x11_1).f2)) = j_ := ⟨_, rfl⟩
            replace H : (impl_bounds.l0 k1 l0 ji6 ji7 l0 (l0.length : Int) (wrap64 (x11_1 + 1))) = some (r1, r2, r3, r4) := by (rw [hji7] at H; exact H)
            have hji7_ : (if x4_1 < ((rd_T47 l0 x11_1).f2) then ((rd_T47 l0 x11_1).f2) else x4_1) = ji7 := hji7
            have H' := Aside0.mk H
            clear H
            have p79002 : 0 ≤ (x11_1 : Int) := of_decide_eq_true (by (with_reducible assumption))
            have q79002 : x11_1 < (l0.length : Int) := of_decide_eq_true (by (with_reducible assumption))
            obtain ⟨ad79002, e79002, hx79002_0, hx79002_1, hx79002_2⟩ := at_T47 HR0.out x11_1 p79002 q79002
            cases e79002
            replace hx79002_0 := (HB.out.cell (World.block_lt_of_cell? w _ hx79002_0)).trans hx79002_0
            replace hx79002_1 := (HB.out.cell (World.block_lt_of_cell? w _ hx79002_1)).trans hx79002_1
            replace hx79002_2 := (HB.out.cell (World.block_lt_of_cell? w _ hx79002_2)).trans hx79002_2
            replace p79002 := eq_true p79002
            replace q79002 := eq_true q79002
            go_wp2_with (first | ((with_reducible refine gate_dst (N := 6) rfl ?_); refine box_event ?hg (N := 6) ?hd (cs := #[.int .i64 0, .int .i64 0, .int .i64 0]) (t := 47) ?hr ?_; (case hd => rfl); (case hg => rfl); (case hr => (go_simp; done)); intro gb79003 hg w8 hbox hb; have n0_ := Aside0.mk (blk_below BK79001.out hb); have n1_ := Aside0.mk (below_step HB.out hb); have n2_ := Aside0.mk (hbox); have n3_ := Aside0.mk ((by rw [hg]; exact (below_size HB.out) : w.heap.size ≤ gb79003)); have n4_ := Aside0.mk ((by rw [hg]; exact (below_size HB.out) : w.heap.size ≤ gb79003)); have n5_ := Aside0.mk ((by rw [hg]; exact Nat.ne_of_lt (blk_lt BK79001.out) : gb79001 ≠ gb79003)); have n6_ := Aside0.mk ((by rw [hg]; exact Nat.ne_of_gt (blk_lt BK79001.out) : gb79003 ≠ gb79001)); clear BK79001; clear HB; have BK79001 := n0_; have HB := n1_; have BK79003 := n2_; have GW79003 := n3_; have GE79003 := n4_; have NB79001_79003 := n5_; have NB79003_79001 := n6_; clear n0_ n1_ n2_ n3_ n4_ n5_ n6_; clear hb hbox hg; have hnb9 := NB79003_79001.out; have hnc9 := NB79001_79003.out; have hcz10_0 : w8.cell? ⟨gb79003, 0, none⟩ = some (.int .i64 0) := (blk_cell BK79003.out 0).trans rfl; have hcz10_1 : w8.cell? ⟨gb79003, 1, none⟩ = some (.int .i64 0) := (blk_cell BK79003.out 1).trans rfl; have hcz10_2 : w8.cell? ⟨gb79003, 2, none⟩ = some (.int .i64 0) := (blk_cell BK79003.out 2).trans rfl; have hfz10_0 := blk_frozen BK79003.out 0; have hfz10_1 := blk_frozen BK79003.out 1; have hfz10_2 := blk_frozen BK79003.out 2))
            repeat (go_quiet (first | ((with_reducible refine gate_dst (N := 6) rfl ?_); refine box_event ?hg (N := 6) ?hd (cs := #[.int .i64 0, .int .i64 0, .int .i64 0]) (t := 47) ?hr ?_; (case hd => rfl); (case hg => rfl); (case hr => first | (go_simp; done) | (go_simp; rfl)); intro gb79003 hg w8 hbox hb; have n0_ := Aside0.mk (blk_below (g := gb79001) (o := .cells #[.int .i64 0, .int .i64 0, .int .i64 0, .int .i64 0] 60 (0, 0)) (by (with_reducible repeat (first | refine blk_drewN ?_ _ | refine blk_drew ?_ | refine blk_alloc ?_ _)); exact BK79001.out) hb); have n1_ := Aside0.mk (below_step (by repeat (first | (with_reducible first | exact HB.out | apply below_alloc | apply pw_below_drewN | apply below_drew1 | refine below_set ?_ GE79001.out) | exact HB.out)) hb); have n2_ := Aside0.mk (hbox); have n3_ := Aside0.mk ((by rw [hg]; exact (below_size (by repeat (first | (with_reducible first | exact HB.out | apply below_alloc | apply pw_below_drewN | apply below_drew1 | refine below_set ?_ GE79001.out) | exact HB.out))) : w.heap.size ≤ gb79003)); have n4_ := Aside0.mk ((by rw [hg]; exact (below_size (by repeat (first | (with_reducible first | exact HB.out | apply below_alloc | apply pw_below_drewN | apply below_drew1 | refine below_set ?_ GE79001.out) | exact HB.out))) : w.heap.size ≤ gb79003)); have n5_ := Aside0.mk ((by rw [hg]; exact Nat.ne_of_lt (blk_lt (g := gb79001) (o := .cells #[.int .i64 0, .int .i64 0, .int .i64 0, .int .i64 0] 60 (0, 0)) (by (with_reducible repeat (first | refine blk_drewN ?_ _ | refine blk_drew ?_ | refine blk_alloc ?_ _)); exact BK79001.out)) : gb79001 ≠ gb79003)); have n6_ := Aside0.mk ((by rw [hg]; exact Nat.ne_of_gt (blk_lt (g := gb79001) (o := .cells #[.int .i64 0, .int .i64 0, .int .i64 0, .int .i64 0] 60 (0, 0)) (by (with_reducible repeat (first | refine blk_drewN ?_ _ | refine blk_drew ?_ | refine blk_alloc ?_ _)); exact BK79001.out)) : gb79003 ≠ gb79001)); clear BK79001; clear HB; have BK79001 := n0_; have HB := n1_; have BK79003 := n2_; have GW79003 := n3_; have GE79003 := n4_; have NB79001_79003 := n5_; have NB79003_79001 := n6_; clear n0_ n1_ n2_ n3_ n4_ n5_ n6_; clear hb hbox hg; have hnb9 := NB79003_79001.out; have hnc9 := NB79001_79003.out; have hcz10_0 : w8.cell? ⟨gb79003, 0, none⟩ = some (.int .i64 0) := (blk_cell BK79003.out 0).trans rfl; have hcz10_1 : w8.cell? ⟨gb79003, 1, none⟩ = some (.int .i64 0) := (blk_cell BK79003.out 1).trans rfl; have hcz10_2 : w8.cell? ⟨gb79003, 2, none⟩ = some (.int .i64 0) := (blk_cell BK79003.out 2).trans rfl; have hfz10_0 := blk_frozen BK79003.out 0; have hfz10_1 := blk_frozen BK79003.out 1; have hfz10_2 := blk_frozen BK79003.out 2)); try go_wp2_with (first | ((with_reducible refine gate_dst (N := 6) rfl ?_); refine box_event ?hg (N := 6) ?hd (cs := #[.int .i64 0, .int .i64 0, .int .i64 0]) (t := 47) ?hr ?_; (case hd => rfl); (case hg => rfl); (case hr => first | (go_simp; done) | (go_simp; rfl)); intro gb79003 hg w8 hbox hb; have n0_ := Aside0.mk (blk_below (g := gb79001) (o := .cells #[.int .i64 0, .int .i64 0, .int .i64 0, .int .i64 0] 60 (0, 0)) (by (with_reducible repeat (first | refine blk_drewN ?_ _ | refine blk_drew ?_ | refine blk_alloc ?_ _)); exact BK79001.out) hb); have n1_ := Aside0.mk (below_step (by repeat (first | (with_reducible first | exact HB.out | apply below_alloc | apply pw_below_drewN | apply below_drew1 | refine below_set ?_ GE79001.out) | exact HB.out)) hb); have n2_ := Aside0.mk (hbox); have n3_ := Aside0.mk ((by rw [hg]; exact (below_size (by repeat (first | (with_reducible first | exact HB.out | apply below_alloc | apply pw_below_drewN | apply below_drew1 | refine below_set ?_ GE79001.out) | exact HB.out))) : w.heap.size ≤ gb79003)); have n4_ := Aside0.mk ((by rw [hg]; exact (below_size (by repeat (first | (with_reducible first | exact HB.out | apply below_alloc | apply pw_below_drewN | apply below_drew1 | refine below_set ?_ GE79001.out) | exact HB.out))) : w.heap.size ≤ gb79003)); have n5_ := Aside0.mk ((by rw [hg]; exact Nat.ne_of_lt (blk_lt (g := gb79001) (o := .cells #[.int .i64 0, .int .i64 0, .int .i64 0, .int .i64 0] 60 (0, 0)) (by (with_reducible repeat (first | refine blk_drewN ?_ _ | refine blk_drew ?_ | refine blk_alloc ?_ _)); exact BK79001.out)) : gb79001 ≠ gb79003)); have n6_ := Aside0.mk ((by rw [hg]; exact Nat.ne_of_gt (blk_lt (g := gb79001) (o := .cells #[.int .i64 0, .int .i64 0, .int .i64 0, .int .i64 0] 60 (0, 0)) (by (with_reducible repeat (first | refine blk_drewN ?_ _ | refine blk_drew ?_ | refine blk_alloc ?_ _)); exact BK79001.out)) : gb79003 ≠ gb79001)); clear BK79001; clear HB; have BK79001 := n0_; have HB := n1_; have BK79003 := n2_; have GW79003 := n3_; have GE79003 := n4_; have NB79001_79003 := n5_; have NB79003_79001 := n6_; clear n0_ n1_ n2_ n3_ n4_ n5_ n6_; clear hb hbox hg; have hnb9 := NB79003_79001.out; have hnc9 := NB79001_79003.out; have hcz10_0 : w8.cell? ⟨gb79003, 0, none⟩ = some (.int .i64 0) := (blk_cell BK79003.out 0).trans rfl; have hcz10_1 : w8.cell? ⟨gb79003, 1, none⟩ = some (.int .i64 0) := (blk_cell BK79003.out 1).trans rfl; have hcz10_2 : w8.cell? ⟨gb79003, 2, none⟩ = some (.int .i64 0) := (blk_cell BK79003.out 2).trans rfl; have hfz10_0 := blk_frozen BK79003.out 0; have hfz10_1 := blk_frozen BK79003.out 1; have hfz10_2 := blk_frozen BK79003.out 2)))
            go_roundg k1
            case measure => have := HK1.out; omega
            case rel => exact ⟨(ji6), (ji7), (wrap64 (x11_1 + 1)), (by rfl), (by rfl), (by rfl), H', ⟨by have := HK1.out; omega⟩, ⟨by (with_reducible repeat (first | refine blk_drewN ?_ _ | refine blk_drew ?_ | refine blk_alloc ?_ _)); refine blk_far ?_ NB79001_79003.out _; (with_reducible repeat (first | refine blk_drewN ?_ _ | refine blk_drew ?_ | refine blk_alloc ?_ _)); refine blk_far ?_ NB79001_79003.out _; (with_reducible repeat (first | refine blk_drewN ?_ _ | refine blk_drew ?_ | refine blk_alloc ?_ _)); refine blk_far ?_ NB79001_79003.out _; (with_reducible repeat (first | refine blk_drewN ?_ _ | refine blk_drew ?_ | refine blk_alloc ?_ _)); exact BK79001.out⟩, ⟨by repeat (with_reducible first | exact HB.out | refine below_set ?_ GE79003.out)⟩⟩
          · rw [if_neg c5] at H
            exact absurd H (by simp)
        · rw [if_neg c4] at H
          exact absurd H (by simp)
      · rw [if_neg c3] at H
        have c3b0 : decide (x11_1 < (l0.length : Int)) = false := decide_eq_false c3
        clear c3
        by_cases c11 : 0 < (l0.length : Int)
        · rw [if_pos c11] at H
          have c11b0 : decide (0 < (l0.length : Int)) = true := decide_eq_true c11
          have c11b1 : decide (0 < l0.length) = true := decide_eq_true (by omega)
          clear c11
          obtain ⟨ji12, hji12⟩ : ∃ j_ : Int, (wrap64 ((l0.length : Int) - 1)) = j_ := ⟨_, rfl⟩
          replace H : (if 0 ≤ ji12 then (if ji12 < (l0.length : Int) then (some (x3_1, (rd_T47 l0 0).f0, wrap64 (x4_1 - x3_1), wrap64 ((wrap64 (((rd_T47 l0 ji12).f0) - ((rd_T47 l0 0).f0))) + 1))) else none) else none) = some (r1, r2, r3, r4) := by (rw [hji12] at H; exact H)
          have hji12w : (IntKind.i64.wrap ((l0.length : Int) - 1)) = ji12 := (i64_w _).trans hji12
          by_cases c13 : 0 ≤ (ji12)
          · rw [if_pos c13] at H
            have c13b0 : decide (0 ≤ ji12) = true := decide_eq_true c13
            clear c13
            by_cases c14 : ji12 < (l0.length : Int)
            · rw [if_pos c14] at H
              have c14b0 : decide (ji12 < (l0.length : Int)) = true := decide_eq_true c14
              clear c14
              simp only [Option.some.injEq, Prod.mk.injEq] at H
              obtain ⟨rfl, rfl, rfl, rfl⟩ := H
              have p79004 : 0 ≤ (0 : Int) := (by omega)
              have q79004 : 0 < (l0.length : Int) := of_decide_eq_true (by (with_reducible assumption))
              obtain ⟨ad79004, e79004, hx79004_0, hx79004_1, hx79004_2⟩ := at_T47 HR0.out 0 p79004 q79004
              cases e79004
              have qi79004 : (0 < l0.length) = True := eq_true (by omega)
              (try rw [show (0 : Int).toNat = 0 from rfl] at hx79004_0)
              (try rw [show 0 * 3 = 0 from rfl] at hx79004_0)
              (try rw [Addr.add_zero'] at hx79004_0)
              (try rw [show (0 : Int).toNat = 0 from rfl] at hx79004_1)
              (try rw [show 0 * 3 = 0 from rfl] at hx79004_1)
              (try rw [Addr.add_zero'] at hx79004_1)
              (try rw [show (0 : Int).toNat = 0 from rfl] at hx79004_2)
              (try rw [show 0 * 3 = 0 from rfl] at hx79004_2)
              (try rw [Addr.add_zero'] at hx79004_2)
              replace hx79004_0 := (HB.out.cell (World.block_lt_of_cell? w _ hx79004_0)).trans hx79004_0
              replace hx79004_1 := (HB.out.cell (World.block_lt_of_cell? w _ hx79004_1)).trans hx79004_1
              replace hx79004_2 := (HB.out.cell (World.block_lt_of_cell? w _ hx79004_2)).trans hx79004_2
              replace p79004 := eq_true p79004
              replace q79004 := eq_true q79004
              have p79005 : 0 ≤ (ji12 : Int) := of_decide_eq_true (by (with_reducible assumption))
              have q79005 : ji12 < (l0.length : Int) := of_decide_eq_true (by (with_reducible assumption))
              obtain ⟨ad79005, e79005, hx79005_0, hx79005_1, hx79005_2⟩ := at_T47 HR0.out ji12 p79005 q79005
              obtain rfl : ad79004 = ad79005 := (by injection e79005)
              replace hx79005_0 := (HB.out.cell (World.block_lt_of_cell? w _ hx79005_0)).trans hx79005_0
              replace hx79005_1 := (HB.out.cell (World.block_lt_of_cell? w _ hx79005_1)).trans hx79005_1
              replace hx79005_2 := (HB.out.cell (World.block_lt_of_cell? w _ hx79005_2)).trans hx79005_2
              replace p79005 := eq_true p79005
              replace q79005 := eq_true q79005
              have hcz15_0 : wr.cell? ⟨gb79001, 0, none⟩ = some (.int .i64 0) := (blk_cell BK79001.out 0).trans rfl
              have hcz15_1 : wr.cell? ⟨gb79001, 1, none⟩ = some (.int .i64 0) := (blk_cell BK79001.out 1).trans rfl
              have hcz15_2 : wr.cell? ⟨gb79001, 2, none⟩ = some (.int .i64 0) := (blk_cell BK79001.out 2).trans rfl
              have hcz15_3 : wr.cell? ⟨gb79001, 3, none⟩ = some (.int .i64 0) := (blk_cell BK79001.out 3).trans rfl
              have hfz15_0 := blk_frozen BK79001.out 0
              have hfz15_1 := blk_frozen BK79001.out 1
              have hfz15_2 := blk_frozen BK79001.out 2
              have hfz15_3 := blk_frozen BK79001.out 3
              go_wp2
              repeat (go_quiet (fail); try go_wp2)
              refine bodyPost_ret (results_cell_row rfl _ _ gb79001 60 #[.int .i64 x3_1, .int .i64 ((rd_T47 l0 0).f0), .int .i64 (wrap64 (x4_1 - x3_1)), .int .i64 (wrap64 ((wrap64 (((rd_T47 l0 ji12).f0) - ((rd_T47 l0 0).f0))) + 1))] (0, 0) _ rfl (by refine blk_put (cs := #[.int .i64 x3_1, .int .i64 ((rd_T47 l0 0).f0), .int .i64 (wrap64 (x4_1 - x3_1)), .int .i64 0]) ?_ 3 _ rfl; (with_reducible repeat (first | refine blk_drewN ?_ _ | refine blk_drew ?_ | refine blk_alloc ?_ _)); refine blk_put (cs := #[.int .i64 x3_1, .int .i64 ((rd_T47 l0 0).f0), .int .i64 0, .int .i64 0]) ?_ 2 _ rfl; (with_reducible repeat (first | refine blk_drewN ?_ _ | refine blk_drew ?_ | refine blk_alloc ?_ _)); refine blk_put (cs := #[.int .i64 x3_1, .int .i64 0, .int .i64 0, .int .i64 0]) ?_ 1 _ rfl; (with_reducible repeat (first | refine blk_drewN ?_ _ | refine blk_drew ?_ | refine blk_alloc ?_ _)); refine blk_put (cs := #[.int .i64 0, .int .i64 0, .int .i64 0, .int .i64 0]) ?_ 0 _ rfl; (with_reducible repeat (refine blk_drewN ?_ _)); exact BK79001.out) Try.underlying60 rfl (by kernel_rfl)) rfl ?_
              exact ⟨by rfl, by repeat (with_reducible first | exact HB.out | apply pw_below_drewN | refine below_set ?_ GE79001.out)⟩
            · rw [if_neg c14] at H
              exact absurd H (by simp)
          · rw [if_neg c13] at H
            exact absurd H (by simp)
        · rw [if_neg c11] at H
          exact absurd H (by simp)

end Go.Proofs.Ytbgohbinonkhfaa.Q

/- Areas and bounds of regions, as the program and the reference have them. -/
namespace Go.Proofs.Ytbgohbinonkhfaa.Pure
open Go.RowKit Go.Proofs.Ytbgohbinonkhfaa.Q Go.Proofs.YtbgohbinonkhfaaW.PrintWords Go.Proofs.YtbgohbinonkhfaaW.PrintLast Go.Proofs.YtbgohbinonkhfaaW.PrintMore
set_option linter.unusedVariables false
set_option linter.unusedSimpArgs false

def leftR (l : List Run) (s : Int) : Int := l.foldl (fun a r => min a r.f1) s
def rightR (l : List Run) (s : Int) : Int := l.foldl (fun a r => max a r.f2) s
theorem left_range (l : List Run) (h : ∀ r ∈ l, runOK r = true) : ∀ s, 0 ≤ s → s ≤ 16 → 0 ≤ leftR l s ∧ leftR l s ≤ 16 := by
  induction l with
  | nil => intro s h0 h1; exact ⟨h0, h1⟩
  | cons x xs ih =>
    intro s h0 h1
    have h2 := (runOK_iff x).1 (h x (by simp))
    exact ih (fun r hr => h r (by simp [hr])) (min s x.f1) (by omega) (by omega)
theorem right_range (l : List Run) (h : ∀ r ∈ l, runOK r = true) : ∀ s, 0 ≤ s → s ≤ 16 → 0 ≤ rightR l s ∧ rightR l s ≤ 16 := by
  induction l with
  | nil => intro s h0 h1; exact ⟨h0, h1⟩
  | cons x xs ih =>
    intro s h0 h1
    have h2 := (runOK_iff x).1 (h x (by simp))
    exact ih (fun r hr => h r (by simp [hr])) (max s x.f2) (by omega) (by omega)
/-- The bounds of runs, at least one. -/
def boundsR (l : List Run) : Int × Int × Int × Int :=
  (leftR l 16, (l.headD z47).f0, rightR l 0 - leftR l 16, (l.getLastD z47).f0 - (l.headD z47).f0 + 1)
theorem last_wrap (l : List Run) (hn : l ≠ []) (hl : l.length ≤ 1000000000) (h : ∀ r ∈ l, runOK r = true) :
    (if 0 < (l.length : Int) then (if 0 ≤ (wrap64 ((l.length : Int) - 1)) then (if (wrap64 ((l.length : Int) - 1)) < (l.length : Int) then (some (leftR l 16, (rd_T47 l 0).f0, wrap64 (rightR l 0 - leftR l 16), wrap64 ((wrap64 (((rd_T47 l (wrap64 ((l.length : Int) - 1))).f0) - ((rd_T47 l 0).f0))) + 1))) else (none)) else (none)) else (none)) = some (boundsR l) := by
  have hp : 0 < l.length := List.length_pos_iff.2 hn
  have h1 := left_range l h 16 (by omega) (by omega)
  have h2 := right_range l h 0 (by omega) (by omega)
  have e0 : rd_T47 l 0 = l[0] := by simpa using rdRun l 0 hp
  have e1 : wrap64 ((l.length : Int) - 1) = ((l.length - 1 : Nat) : Int) := by rw [w64 (by omega) (by omega)]; omega
  have ha := (runOK_iff _).1 (h l[0] (List.getElem_mem hp))
  have hb := (runOK_iff _).1 (h (l[l.length - 1]'(by omega)) (List.getElem_mem (by omega)))
  rw [if_pos (by omega), e1, if_pos (by omega), if_pos (by omega), rdRun l (l.length - 1) (by omega), e0, w64 (x := rightR l 0 - leftR l 16) (by omega) (by omega), w64 (x := (l[l.length - 1]'(by omega)).f0 - l[0].f0) (by omega) (by omega), w64 (by omega) (by omega)]
  unfold boundsR
  have f1 : l.headD z47 = l[0] := by cases l with
    | nil => exact absurd rfl hn
    | cons x xs => rfl
  have f2 : l.getLastD z47 = l[l.length - 1]'(by omega) := by
    rw [← List.getLast_eq_getElem hn, List.getLastD_eq_getLast?, List.getLast?_eq_some_getLast hn]; rfl
  rw [f1, f2]
theorem foldl_drop {α β : Type} (f : β → α → β) (l : List α) (i : Nat) (h : i < l.length) (s : β) : (l.drop i).foldl f s = (l.drop (i + 1)).foldl f (f s l[i]) := by
  rw [List.drop_eq_getElem_cons h]; rfl
theorem impl_bounds_eq (l : List Run) (hn : l ≠ []) (hl : l.length ≤ 1000000000) (h : ∀ r ∈ l, runOK r = true) (k : Nat) (hk : l.length < k) : impl_bounds.f k l = some (boundsR l) := by
  unfold impl_bounds.f
  have hh := loop_up 0 l.length (fun k i (s : Int × Int) => impl_bounds.l0 k l s.1 s.2 l (l.length : Int) (i : Int)) (fun i s => leftR (l.drop i) s.1 = leftR l 16 ∧ rightR (l.drop i) s.2 = rightR l 0) (fun _ _ => boundsR l)
    (by
      intro i s k hi hs _
      refine .inr ⟨(mn s.1 l[i].f1, mx s.2 l[i].f2), ?_, ?_, rfl⟩
      · simp only [impl_bounds.l0]
        rw [if_pos (by omega), if_pos (by omega), if_pos (by omega), rdRun l i hi, w64n i (by omega)]
      · obtain ⟨q1, q2⟩ := hs
        unfold leftR at q1 ⊢
        unfold rightR at q2 ⊢
        rw [foldl_drop _ l i hi] at q1 q2
        rw [mn_def, mx_def]
        exact ⟨q1, q2⟩)
    (by
      intro s k hs _
      rw [List.drop_length] at hs
      simp only [impl_bounds.l0]
      rw [if_neg (by omega)]
      have q1 : s.1 = leftR l 16 := hs.1
      have q2 : s.2 = rightR l 0 := hs.2
      rw [q1, q2]
      exact last_wrap l hn hl h)
    l.length 0 (16, 0) k (by omega) ⟨rfl, rfl⟩ (by omega)
  exact hh
theorem spec_boundsOf_eq (l : List Run) (hn : l ≠ []) (hl : l.length ≤ 1000000000) (h : ∀ r ∈ l, runOK r = true) (k : Nat) (hk : l.length < k) : spec_boundsOf.f k l = some (boundsR l) := by
  have hp : 0 < l.length := List.length_pos_iff.2 hn
  have e0 : rd_T47 l 0 = l[0] := by simpa using rdRun l 0 hp
  have ha := (runOK_iff _).1 (h l[0] (List.getElem_mem hp))
  unfold spec_boundsOf.f
  rw [if_pos (by omega), e0]
  have s1 : leftR l l[0].f1 = leftR l 16 := by
    cases l with
    | nil => exact absurd rfl hn
    | cons x xs =>
      simp only [List.getElem_cons_zero] at ha ⊢
      show leftR xs (min x.f1 x.f1) = leftR xs (min 16 x.f1)
      congr 1; omega
  have s2 : rightR l l[0].f2 = rightR l 0 := by
    cases l with
    | nil => exact absurd rfl hn
    | cons x xs =>
      simp only [List.getElem_cons_zero] at ha ⊢
      show rightR xs (max x.f2 x.f2) = rightR xs (max 0 x.f2)
      congr 1; omega
  have hh := loop_up 0 l.length (fun k i (s : Int × Int) => spec_boundsOf.l0 k l s.1 s.2 (i : Int)) (fun i s => leftR (l.drop i) s.1 = leftR l 16 ∧ rightR (l.drop i) s.2 = rightR l 0) (fun _ _ => boundsR l)
    (by
      intro i s k hi hs _
      refine .inr ⟨(mn s.1 l[i].f1, mx s.2 l[i].f2), ?_, ?_, rfl⟩
      · simp only [spec_boundsOf.l0]
        rw [if_pos (by omega), if_pos (by omega), rdRun l i hi, w64n i (by omega)]
      · obtain ⟨q1, q2⟩ := hs
        unfold leftR at q1 ⊢
        unfold rightR at q2 ⊢
        rw [foldl_drop _ l i hi] at q1 q2
        rw [mn_def, mx_def]
        exact ⟨q1, q2⟩)
    (by
      intro s k hs _
      rw [List.drop_length] at hs
      simp only [spec_boundsOf.l0]
      rw [if_neg (by omega)]
      have q1 : s.1 = leftR l 16 := hs.1
      have q2 : s.2 = rightR l 0 := hs.2
      rw [q1, q2]
      exact last_wrap l hn hl h)
    l.length 0 (l[0].f1, l[0].f2) k (by omega) ⟨s1, s2⟩ (by omega)
  exact hh
end Go.Proofs.Ytbgohbinonkhfaa.Pure

namespace Go.Proofs.Ytbgohbinonkhfaa.Q
open Go.RowKit Go.Proofs.YtbgohbinonkhfaaW.PrintWords Go.Proofs.YtbgohbinonkhfaaW.PrintLast Go.Proofs.YtbgohbinonkhfaaW.PrintMore
attribute [local go_sem] max2_int min2_int max_two min_two max_three min_three max_four min_four
set_option linter.unusedVariables false
set_option linter.unusedSimpArgs false
def impl_Box_has.f (a0_0 : Int) (a0_1 : Int) (a0_2 : Int) (a0_3 : Int) (a1 : Int) (a2 : Int) : Option (Bool) := if a1 ≥ a0_0 then (if a1 < (wrap64 (a0_0 + a0_2)) then (if a2 ≥ a0_1 then (some (decide (a2 < (wrap64 (a0_1 + a0_3))))) else (some false)) else (some false)) else (some false)
set_option maxHeartbeats 8000000 in
set_option maxRecDepth 100000 in
theorem impl_Box_has.calls (a0_0 : Int) (a0_1 : Int) (a0_2 : Int) (a0_3 : Int) (a1 : Int) (a2 : Int) (r : Bool) (w : World) (h : impl_Box_has.f a0_0 a0_1 a0_2 a0_3 a1 a2 = some r) :
    Calls Try.prog 81 #[.agg #[.int .i64 a0_0, .int .i64 a0_1, .int .i64 a0_2, .int .i64 a0_3], .int .i64 a1, .int .i64 a2] w fun e w' => e = .returned (.bool r) ∧ Below w.heap.size w w' := by
  have hu60 := Try.underlying60
  have HB := Aside0.mk (Below.refl w.heap.size w)
  have H : (if a1 ≥ a0_0 then (if a1 < (wrap64 (a0_0 + a0_2)) then (if a2 ≥ a0_1 then (some (decide (a2 < (wrap64 (a0_1 + a0_3))))) else (some false)) else (some false)) else (some false)) = some r := h
  clear h
  by_cases c4 : a1 ≥ a0_0
  · rw [if_pos c4] at H
    have c4b0 : decide (a0_0 ≤ a1) = true := decide_eq_true c4
    clear c4
    by_cases c5 : a1 < (wrap64 (a0_0 + a0_2))
    · rw [if_pos c5] at H
      have c5b0 : decide (a1 < (wrap64 (a0_0 + a0_2))) = true := decide_eq_true c5
      clear c5
      by_cases c6 : a2 ≥ a0_1
      · rw [if_pos c6] at H
        have c6b0 : decide (a0_1 ≤ a2) = true := decide_eq_true c6
        clear c6
        obtain rfl := Option.some.inj H
        go_enter Try.func81, Try.ntmps81
        go_wp2_with (first | ((with_reducible refine gate_dst (N := 3) rfl ?_); refine box_event ?hg (N := 3) ?hd (cs := #[.int .i64 a0_0, .int .i64 a0_1, .int .i64 a0_2, .int .i64 a0_3]) (t := 60) ?hr ?_; (case hd => rfl); (case hg => rfl); (case hr => first | (go_simp; done) | (go_simp; rfl)); intro gb82001 hg w7 hbox hb; have n0_ := Aside0.mk (below_step (by repeat (first | (with_reducible first | exact HB.out | apply below_alloc | apply pw_below_drewN | apply below_drew1) | exact HB.out)) hb); have n1_ := Aside0.mk (hbox); have n2_ := Aside0.mk ((by rw [hg]; exact (below_size (by repeat (first | (with_reducible first | exact HB.out | apply below_alloc | apply pw_below_drewN | apply below_drew1) | exact HB.out))) : w.heap.size ≤ gb82001)); have n3_ := Aside0.mk ((by rw [hg]; exact (below_size (by repeat (first | (with_reducible first | exact HB.out | apply below_alloc | apply pw_below_drewN | apply below_drew1) | exact HB.out))) : w.heap.size ≤ gb82001)); clear HB; have HB := n0_; have BK82001 := n1_; have GW82001 := n2_; have GE82001 := n3_; clear n0_ n1_ n2_ n3_; clear hb hbox hg; have hcz8_0 : w7.cell? ⟨gb82001, 0, none⟩ = some (.int .i64 a0_0) := (blk_cell BK82001.out 0).trans rfl; have hcz8_1 : w7.cell? ⟨gb82001, 1, none⟩ = some (.int .i64 a0_1) := (blk_cell BK82001.out 1).trans rfl; have hcz8_2 : w7.cell? ⟨gb82001, 2, none⟩ = some (.int .i64 a0_2) := (blk_cell BK82001.out 2).trans rfl; have hcz8_3 : w7.cell? ⟨gb82001, 3, none⟩ = some (.int .i64 a0_3) := (blk_cell BK82001.out 3).trans rfl; have hfz8_0 := blk_frozen BK82001.out 0; have hfz8_1 := blk_frozen BK82001.out 1; have hfz8_2 := blk_frozen BK82001.out 2; have hfz8_3 := blk_frozen BK82001.out 3))
        go_ret
        exact ⟨by first | rfl | (simp [errW_none, errW_some] <;> rfl) | (simp [*, errW_none, errW_some] <;> rfl), by repeat (first | (with_reducible first | exact HB.out | apply below_alloc | apply pw_below_drewN | apply below_drew1 | refine below_set ?_ GE82001.out) | exact HB.out)⟩
      · rw [if_neg c6] at H
        have c6b0 : decide (a0_1 ≤ a2) = false := decide_eq_false c6
        clear c6
        obtain rfl := Option.some.inj H
        go_enter Try.func81, Try.ntmps81
        go_wp2_with (first | ((with_reducible refine gate_dst (N := 3) rfl ?_); refine box_event ?hg (N := 3) ?hd (cs := #[.int .i64 a0_0, .int .i64 a0_1, .int .i64 a0_2, .int .i64 a0_3]) (t := 60) ?hr ?_; (case hd => rfl); (case hg => rfl); (case hr => first | (go_simp; done) | (go_simp; rfl)); intro gb82001 hg w9 hbox hb; have n0_ := Aside0.mk (below_step (by repeat (first | (with_reducible first | exact HB.out | apply below_alloc | apply pw_below_drewN | apply below_drew1) | exact HB.out)) hb); have n1_ := Aside0.mk (hbox); have n2_ := Aside0.mk ((by rw [hg]; exact (below_size (by repeat (first | (with_reducible first | exact HB.out | apply below_alloc | apply pw_below_drewN | apply below_drew1) | exact HB.out))) : w.heap.size ≤ gb82001)); have n3_ := Aside0.mk ((by rw [hg]; exact (below_size (by repeat (first | (with_reducible first | exact HB.out | apply below_alloc | apply pw_below_drewN | apply below_drew1) | exact HB.out))) : w.heap.size ≤ gb82001)); clear HB; have HB := n0_; have BK82001 := n1_; have GW82001 := n2_; have GE82001 := n3_; clear n0_ n1_ n2_ n3_; clear hb hbox hg; have hcz10_0 : w9.cell? ⟨gb82001, 0, none⟩ = some (.int .i64 a0_0) := (blk_cell BK82001.out 0).trans rfl; have hcz10_1 : w9.cell? ⟨gb82001, 1, none⟩ = some (.int .i64 a0_1) := (blk_cell BK82001.out 1).trans rfl; have hcz10_2 : w9.cell? ⟨gb82001, 2, none⟩ = some (.int .i64 a0_2) := (blk_cell BK82001.out 2).trans rfl; have hcz10_3 : w9.cell? ⟨gb82001, 3, none⟩ = some (.int .i64 a0_3) := (blk_cell BK82001.out 3).trans rfl; have hfz10_0 := blk_frozen BK82001.out 0; have hfz10_1 := blk_frozen BK82001.out 1; have hfz10_2 := blk_frozen BK82001.out 2; have hfz10_3 := blk_frozen BK82001.out 3))
        go_ret
        exact ⟨by first | rfl | (simp [errW_none, errW_some] <;> rfl) | (simp [*, errW_none, errW_some] <;> rfl), by repeat (first | (with_reducible first | exact HB.out | apply below_alloc | apply pw_below_drewN | apply below_drew1 | refine below_set ?_ GE82001.out) | exact HB.out)⟩
    · rw [if_neg c5] at H
      have c5b0 : decide (a1 < (wrap64 (a0_0 + a0_2))) = false := decide_eq_false c5
      clear c5
      obtain rfl := Option.some.inj H
      go_enter Try.func81, Try.ntmps81
      go_wp2_with (first | ((with_reducible refine gate_dst (N := 3) rfl ?_); refine box_event ?hg (N := 3) ?hd (cs := #[.int .i64 a0_0, .int .i64 a0_1, .int .i64 a0_2, .int .i64 a0_3]) (t := 60) ?hr ?_; (case hd => rfl); (case hg => rfl); (case hr => first | (go_simp; done) | (go_simp; rfl)); intro gb82001 hg w11 hbox hb; have n0_ := Aside0.mk (below_step (by repeat (first | (with_reducible first | exact HB.out | apply below_alloc | apply pw_below_drewN | apply below_drew1) | exact HB.out)) hb); have n1_ := Aside0.mk (hbox); have n2_ := Aside0.mk ((by rw [hg]; exact (below_size (by repeat (first | (with_reducible first | exact HB.out | apply below_alloc | apply pw_below_drewN | apply below_drew1) | exact HB.out))) : w.heap.size ≤ gb82001)); have n3_ := Aside0.mk ((by rw [hg]; exact (below_size (by repeat (first | (with_reducible first | exact HB.out | apply below_alloc | apply pw_below_drewN | apply below_drew1) | exact HB.out))) : w.heap.size ≤ gb82001)); clear HB; have HB := n0_; have BK82001 := n1_; have GW82001 := n2_; have GE82001 := n3_; clear n0_ n1_ n2_ n3_; clear hb hbox hg; have hcz12_0 : w11.cell? ⟨gb82001, 0, none⟩ = some (.int .i64 a0_0) := (blk_cell BK82001.out 0).trans rfl; have hcz12_1 : w11.cell? ⟨gb82001, 1, none⟩ = some (.int .i64 a0_1) := (blk_cell BK82001.out 1).trans rfl; have hcz12_2 : w11.cell? ⟨gb82001, 2, none⟩ = some (.int .i64 a0_2) := (blk_cell BK82001.out 2).trans rfl; have hcz12_3 : w11.cell? ⟨gb82001, 3, none⟩ = some (.int .i64 a0_3) := (blk_cell BK82001.out 3).trans rfl; have hfz12_0 := blk_frozen BK82001.out 0; have hfz12_1 := blk_frozen BK82001.out 1; have hfz12_2 := blk_frozen BK82001.out 2; have hfz12_3 := blk_frozen BK82001.out 3))
      go_ret
      exact ⟨by first | rfl | (simp [errW_none, errW_some] <;> rfl) | (simp [*, errW_none, errW_some] <;> rfl), by repeat (first | (with_reducible first | exact HB.out | apply below_alloc | apply pw_below_drewN | apply below_drew1 | refine below_set ?_ GE82001.out) | exact HB.out)⟩
  · rw [if_neg c4] at H
    have c4b0 : decide (a0_0 ≤ a1) = false := decide_eq_false c4
    clear c4
    obtain rfl := Option.some.inj H
    go_enter Try.func81, Try.ntmps81
    go_wp2_with (first | ((with_reducible refine gate_dst (N := 3) rfl ?_); refine box_event ?hg (N := 3) ?hd (cs := #[.int .i64 a0_0, .int .i64 a0_1, .int .i64 a0_2, .int .i64 a0_3]) (t := 60) ?hr ?_; (case hd => rfl); (case hg => rfl); (case hr => first | (go_simp; done) | (go_simp; rfl)); intro gb82001 hg w13 hbox hb; have n0_ := Aside0.mk (below_step (by repeat (first | (with_reducible first | exact HB.out | apply below_alloc | apply pw_below_drewN | apply below_drew1) | exact HB.out)) hb); have n1_ := Aside0.mk (hbox); have n2_ := Aside0.mk ((by rw [hg]; exact (below_size (by repeat (first | (with_reducible first | exact HB.out | apply below_alloc | apply pw_below_drewN | apply below_drew1) | exact HB.out))) : w.heap.size ≤ gb82001)); have n3_ := Aside0.mk ((by rw [hg]; exact (below_size (by repeat (first | (with_reducible first | exact HB.out | apply below_alloc | apply pw_below_drewN | apply below_drew1) | exact HB.out))) : w.heap.size ≤ gb82001)); clear HB; have HB := n0_; have BK82001 := n1_; have GW82001 := n2_; have GE82001 := n3_; clear n0_ n1_ n2_ n3_; clear hb hbox hg; have hcz14_0 : w13.cell? ⟨gb82001, 0, none⟩ = some (.int .i64 a0_0) := (blk_cell BK82001.out 0).trans rfl; have hcz14_1 : w13.cell? ⟨gb82001, 1, none⟩ = some (.int .i64 a0_1) := (blk_cell BK82001.out 1).trans rfl; have hcz14_2 : w13.cell? ⟨gb82001, 2, none⟩ = some (.int .i64 a0_2) := (blk_cell BK82001.out 2).trans rfl; have hcz14_3 : w13.cell? ⟨gb82001, 3, none⟩ = some (.int .i64 a0_3) := (blk_cell BK82001.out 3).trans rfl; have hfz14_0 := blk_frozen BK82001.out 0; have hfz14_1 := blk_frozen BK82001.out 1; have hfz14_2 := blk_frozen BK82001.out 2; have hfz14_3 := blk_frozen BK82001.out 3))
    go_ret
    exact ⟨by first | rfl | (simp [errW_none, errW_some] <;> rfl) | (simp [*, errW_none, errW_some] <;> rfl), by repeat (first | (with_reducible first | exact HB.out | apply below_alloc | apply pw_below_drewN | apply below_drew1 | refine below_set ?_ GE82001.out) | exact HB.out)⟩

end Go.Proofs.Ytbgohbinonkhfaa.Q

/- impl.BoxRegion: the runs of the grid of a box's pixels. -/
namespace Go.Proofs.Ytbgohbinonkhfaa.Q
open Go.RowKit Go.Proofs.YtbgohbinonkhfaaW.PrintWords Go.Proofs.YtbgohbinonkhfaaW.PrintLast Go.Proofs.YtbgohbinonkhfaaW.PrintMore
attribute [local go_sem] max2_int min2_int max_two min_two max_three min_three max_four min_four
set_option linter.unusedVariables false
set_option linter.unusedSimpArgs false
open Go.Proofs.Ytbgohbinonkhfaa.Pure

/-- whether a box lies on the grid -/
def boxOk (b0 b1 b2 b3 : Int) : Bool := decide (0 ≤ b0 ∧ b0 < 16 ∧ 0 ≤ b1 ∧ b1 < 16 ∧ 1 ≤ b2 ∧ b2 ≤ 16 - b0 ∧ 1 ≤ b3 ∧ b3 ≤ 16 - b1)
/-- whether a pixel is in a box -/
def inBox (b0 b1 b2 b3 : Int) (x y : Nat) : Bool := decide (b0 ≤ (x : Int)) && decide ((x : Int) < b0 + b2) && decide (b1 ≤ (y : Int)) && decide ((y : Int) < b1 + b3)
theorem has_eq (b0 b1 b2 b3 : Int) (h0 : 0 ≤ b0 ∧ b0 < 16 ∧ 0 ≤ b1 ∧ b1 < 16 ∧ 1 ≤ b2 ∧ b2 ≤ 16 - b0 ∧ 1 ≤ b3 ∧ b3 ≤ 16 - b1) (x y : Nat) : impl_Box_has.f b0 b1 b2 b3 (x : Int) (y : Int) = some (inBox b0 b1 b2 b3 x y) := by
  unfold impl_Box_has.f inBox
  rw [w64 (x := b0 + b2) (by omega) (by omega), w64 (x := b1 + b3) (by omega) (by omega)]
  by_cases c1 : b0 ≤ (x : Int)
  · rw [if_pos c1]
    by_cases c2 : (x : Int) < b0 + b2
    · rw [if_pos c2]
      by_cases c3 : b1 ≤ (y : Int)
      · rw [if_pos c3, decide_eq_true c1, decide_eq_true c2, decide_eq_true c3]; simp
      · rw [if_neg c3, decide_eq_false c3]; simp
    · rw [if_neg c2, decide_eq_false c2]; simp
  · rw [if_neg c1, decide_eq_false c1]; simp
def impl_BoxRegion.f (b0 b1 b2 b3 : Int) : Option (List S47 × Bool) := some (if boxOk b0 b1 b2 b3 = true then (runsL (gso (inBox b0 b1 b2 b3) 256), true) else ([], false))

set_option maxHeartbeats 4000000 in
set_option maxRecDepth 100000 in
theorem boxHas_calls (b0 b1 b2 b3 : Int) (h0 : 0 ≤ b0 ∧ b0 < 16 ∧ 0 ≤ b1 ∧ b1 < 16 ∧ 1 ≤ b2 ∧ b2 ≤ 16 - b0 ∧ 1 ≤ b3 ∧ b3 ≤ 16 - b1) (x y : Nat) (B : Nat) (w : World)
    (hB : w.heap[B]? = some (.cells #[.int .i64 b0, .int .i64 b1, .int .i64 b2, .int .i64 b3] 60 (0, 0))) :
    Calls Try.prog 80 #[.int .i64 (x : Int), .int .i64 (y : Int), .pointer (some ⟨B, 0, none⟩)] w fun e w' => e = .returned (.bool (inBox b0 b1 b2 b3 x y)) ∧ Below w.heap.size w w' := by
  have hu := Try.underlying60
  have HC := Aside0.mk (impl_Box_has.calls b0 b1 b2 b3 (x : Int) (y : Int) _ w (has_eq b0 b1 b2 b3 h0 x y))
  have c0 : w.cell? ⟨B, 0, none⟩ = some (.int .i64 b0) := (blk_cell hB 0).trans rfl
  have c1 : w.cell? ⟨B, 1, none⟩ = some (.int .i64 b1) := (blk_cell hB 1).trans rfl
  have c2 : w.cell? ⟨B, 2, none⟩ = some (.int .i64 b2) := (blk_cell hB 2).trans rfl
  have c3 : w.cell? ⟨B, 3, none⟩ = some (.int .i64 b3) := (blk_cell hB 3).trans rfl
  clear h0
  go_enter Try.func80, Try.ntmps80
  go_wp2_with (first | (go_at_call 81; refine HC.out.mono ?_; rintro e w1 ⟨rfl, hb1⟩; have HB1 := Aside0.mk hb1; clear hb1))
  go_ret
  exact ⟨rfl, HB1.out⟩
set_option maxHeartbeats 4000000 in
set_option maxRecDepth 100000 in
theorem impl_BoxRegion.calls (b0 b1 b2 b3 : Int) (r1 : List S47) (r2 : Bool) (w : World) (h : impl_BoxRegion.f b0 b1 b2 b3 = some (r1, r2)) :
    Calls Try.prog 39 #[.agg #[.int .i64 b0, .int .i64 b1, .int .i64 b2, .int .i64 b3]] w fun e w' => ∃ v0_ : Value, e = .returned (.tuple #[v0_, .bool r2]) ∧ Kd.R k47 47 w' w.heap.size (fun _ => True) v0_ r1 ∧ Below w.heap.size w w' := by
  have h' := Option.some.inj h
  clear h
  have hu := Try.underlying60
  have hB := Aside0.mk (below_alloc (Below.refl w.heap.size w) (.cells #[.int .i64 b0, .int .i64 b1, .int .i64 b2, .int .i64 b3] 60))
  by_cases ho : boxOk b0 b1 b2 b3 = true
  · rw [if_pos ho] at h'
    obtain ⟨rfl, rfl⟩ := Prod.mk.inj h'
    clear h'
    have h0 : 0 ≤ b0 ∧ b0 < 16 ∧ 0 ≤ b1 ∧ b1 < 16 ∧ 1 ≤ b2 ∧ b2 ≤ 16 - b0 ∧ 1 ≤ b3 ∧ b3 ≤ 16 - b1 := by simpa [boxOk] using ho
    clear ho
    have d1 : decide (b0 < 0) = false := by simp; omega
    have d2 : decide (16 ≤ b0) = false := by simp; omega
    have d3 : decide (b1 < 0) = false := by simp; omega
    have d4 : decide (16 ≤ b1) = false := by simp; omega
    have d5 : decide (b2 < 1) = false := by simp; omega
    have d6 : decide (wrap64 (16 - b0) < b2) = false := by rw [w64 (x := 16 - b0) (by omega) (by omega)]; simp; omega
    have d7 : decide (b3 < 1) = false := by simp; omega
    have d8 : decide (wrap64 (16 - b1) < b3) = false := by rw [w64 (x := 16 - b1) (by omega) (by omega)]; simp; omega
    have hblk := Aside0.mk (blk_new w (.cells #[.int .i64 b0, .int .i64 b1, .int .i64 b2, .int .i64 b3] 60))
    have HG := Aside0.mk (fun W' => gridBy_calls 80 #[.pointer (some ⟨w.heap.size, 0, none⟩)] (inBox b0 b1 b2 b3) W' (enters_of Try.func80 (by kernel_rfl) rfl))
    go_enter Try.func39, Try.ntmps39
    go_wp2_with (first
      | (go_at_call 67; refine (HG.out _ (fun W x y _ _ hW => boxHas_calls b0 b1 b2 b3 h0 x y w.heap.size W (blk_below hblk.out hW))).mono ?_; rintro e w2 ⟨rfl, hb2⟩; have HB2 := Aside0.mk (below_then hB.out hB.out.size hb2); clear hb2)
      | (go_at_call 71; refine (runs_calls _ _).mono ?_; rintro e w3 ⟨v3, rfl, hr3, hb3⟩; have HR3 := Aside0.mk (Kd.R_lower hr3 HB2.out.size); have HB3 := Aside0.mk (below_then HB2.out HB2.out.size hb3); clear hb3 hr3))
    go_ret2
    exact ⟨v3, rfl, HR3.out, HB3.out⟩
  · rw [if_neg ho] at h'
    obtain ⟨rfl, rfl⟩ := Prod.mk.inj h'
    clear h'
    have h0 : b0 < 0 ∨ (¬ b0 < 0 ∧ 16 ≤ b0) ∨ (0 ≤ b0 ∧ b0 < 16 ∧ b1 < 0) ∨ (0 ≤ b0 ∧ b0 < 16 ∧ ¬ b1 < 0 ∧ 16 ≤ b1) ∨ (0 ≤ b0 ∧ b0 < 16 ∧ 0 ≤ b1 ∧ b1 < 16 ∧ b2 < 1) ∨ (0 ≤ b0 ∧ b0 < 16 ∧ 0 ≤ b1 ∧ b1 < 16 ∧ ¬ b2 < 1 ∧ 16 - b0 < b2) ∨ (0 ≤ b0 ∧ b0 < 16 ∧ 0 ≤ b1 ∧ b1 < 16 ∧ 1 ≤ b2 ∧ b2 ≤ 16 - b0 ∧ b3 < 1) ∨ (0 ≤ b0 ∧ b0 < 16 ∧ 0 ≤ b1 ∧ b1 < 16 ∧ 1 ≤ b2 ∧ b2 ≤ 16 - b0 ∧ ¬ b3 < 1 ∧ 16 - b1 < b3) := by
      have : ¬ (0 ≤ b0 ∧ b0 < 16 ∧ 0 ≤ b1 ∧ b1 < 16 ∧ 1 ≤ b2 ∧ b2 ≤ 16 - b0 ∧ 1 ≤ b3 ∧ b3 ≤ 16 - b1) := by simpa [boxOk] using ho
      omega
    clear ho
    rcases h0 with h0 | h0 | h0 | h0 | h0 | h0 | h0 | h0
    · have d1 : decide (b0 < 0) = true := by simp; omega
      clear h0
      go_enter Try.func39, Try.ntmps39
      go_wp2
      go_ret2
      exact ⟨_, rfl, Kd.R_nil _ _ _ _ _, hB.out⟩
    · have d1 : decide (b0 < 0) = false := by simp; omega
      have d2 : decide (16 ≤ b0) = true := by simp; omega
      clear h0
      go_enter Try.func39, Try.ntmps39
      go_wp2
      go_ret2
      exact ⟨_, rfl, Kd.R_nil _ _ _ _ _, hB.out⟩
    · have d1 : decide (b0 < 0) = false := by simp; omega
      have d2 : decide (16 ≤ b0) = false := by simp; omega
      have d3 : decide (b1 < 0) = true := by simp; omega
      clear h0
      go_enter Try.func39, Try.ntmps39
      go_wp2
      go_ret2
      exact ⟨_, rfl, Kd.R_nil _ _ _ _ _, hB.out⟩
    · have d1 : decide (b0 < 0) = false := by simp; omega
      have d2 : decide (16 ≤ b0) = false := by simp; omega
      have d3 : decide (b1 < 0) = false := by simp; omega
      have d4 : decide (16 ≤ b1) = true := by simp; omega
      clear h0
      go_enter Try.func39, Try.ntmps39
      go_wp2
      go_ret2
      exact ⟨_, rfl, Kd.R_nil _ _ _ _ _, hB.out⟩
    · have d1 : decide (b0 < 0) = false := by simp; omega
      have d2 : decide (16 ≤ b0) = false := by simp; omega
      have d3 : decide (b1 < 0) = false := by simp; omega
      have d4 : decide (16 ≤ b1) = false := by simp; omega
      have d5 : decide (b2 < 1) = true := by simp; omega
      clear h0
      go_enter Try.func39, Try.ntmps39
      go_wp2
      go_ret2
      exact ⟨_, rfl, Kd.R_nil _ _ _ _ _, hB.out⟩
    · have d1 : decide (b0 < 0) = false := by simp; omega
      have d2 : decide (16 ≤ b0) = false := by simp; omega
      have d3 : decide (b1 < 0) = false := by simp; omega
      have d4 : decide (16 ≤ b1) = false := by simp; omega
      have d5 : decide (b2 < 1) = false := by simp; omega
      have d6 : decide (wrap64 (16 - b0) < b2) = true := by rw [w64 (x := 16 - b0) (by omega) (by omega)]; simp; omega
      clear h0
      go_enter Try.func39, Try.ntmps39
      go_wp2
      go_ret2
      exact ⟨_, rfl, Kd.R_nil _ _ _ _ _, hB.out⟩
    · have d1 : decide (b0 < 0) = false := by simp; omega
      have d2 : decide (16 ≤ b0) = false := by simp; omega
      have d3 : decide (b1 < 0) = false := by simp; omega
      have d4 : decide (16 ≤ b1) = false := by simp; omega
      have d5 : decide (b2 < 1) = false := by simp; omega
      have d6 : decide (wrap64 (16 - b0) < b2) = false := by rw [w64 (x := 16 - b0) (by omega) (by omega)]; simp; omega
      have d7 : decide (b3 < 1) = true := by simp; omega
      clear h0
      go_enter Try.func39, Try.ntmps39
      go_wp2
      go_ret2
      exact ⟨_, rfl, Kd.R_nil _ _ _ _ _, hB.out⟩
    · have d1 : decide (b0 < 0) = false := by simp; omega
      have d2 : decide (16 ≤ b0) = false := by simp; omega
      have d3 : decide (b1 < 0) = false := by simp; omega
      have d4 : decide (16 ≤ b1) = false := by simp; omega
      have d5 : decide (b2 < 1) = false := by simp; omega
      have d6 : decide (wrap64 (16 - b0) < b2) = false := by rw [w64 (x := 16 - b0) (by omega) (by omega)]; simp; omega
      have d7 : decide (b3 < 1) = false := by simp; omega
      have d8 : decide (wrap64 (16 - b1) < b3) = true := by rw [w64 (x := 16 - b1) (by omega) (by omega)]; simp; omega
      clear h0
      go_enter Try.func39, Try.ntmps39
      go_wp2
      go_ret2
      exact ⟨_, rfl, Kd.R_nil _ _ _ _ _, hB.out⟩
end Go.Proofs.Ytbgohbinonkhfaa.Q

/- The region of a box, as the program and the reference have it. -/
namespace Go.Proofs.Ytbgohbinonkhfaa.Pure
open Go.RowKit Go.Proofs.Ytbgohbinonkhfaa.Q Go.Proofs.YtbgohbinonkhfaaW.PrintWords Go.Proofs.YtbgohbinonkhfaaW.PrintLast Go.Proofs.YtbgohbinonkhfaaW.PrintMore
set_option linter.unusedVariables false
set_option linter.unusedSimpArgs false

theorem scanRow_len (g : Nat → Bool) (y : Nat) : ∀ d x, 17 ≤ x + d → (scanRow g y x).length ≤ 17 - x := by
  intro d
  induction d with
  | zero => intro x hx; rw [scan_end g y x (by omega)]; simp
  | succ d ih =>
    intro x hx
    by_cases h16 : x < 16
    · cases hv : g (y * 16 + x) with
      | true =>
        have := endAt_ge g y (16 - x) x
        rw [scan_true g y x h16 hv, List.length_cons]
        have := ih (endAt g y (16 - x) x + 1) (by omega)
        omega
      | false =>
        rw [scan_false g y x h16 hv]
        have := ih (x + 1) (by omega)
        omega
    · rw [scan_end g y x (by omega)]; simp
theorem runsTo_len (g : Nat → Bool) (n : Nat) : (runsTo g n).length ≤ 17 * n := by
  induction n with
  | zero => simp [runsTo]
  | succ n ih =>
    rw [runsTo_succ, List.length_append]
    have := scanRow_len g n 17 0 (by omega)
    omega
theorem runsL_len (g : Nat → Bool) : (runsL g).length ≤ 272 := runsTo_len g 16
theorem scan_none (g : Nat → Bool) (y : Nat) (h : ∀ x, x < 16 → g (y * 16 + x) = false) : scanRow g y 0 = [] := by
  have : ∀ d x, 16 ≤ x + d → scanRow g y x = [] := by
    intro d
    induction d with
    | zero => intro x hx; exact scan_end g y x (by omega)
    | succ d ih =>
      intro x hx
      by_cases h16 : x < 16
      · rw [scan_false g y x h16 (h x h16)]; exact ih (x + 1) (by omega)
      · exact scan_end g y x (by omega)
  exact this 16 0 (by omega)
theorem scan_seg (g : Nat → Bool) (y a b : Nat) (hab : a < b) (hb : b ≤ 16) (h : ∀ x, x < 16 → g (y * 16 + x) = (decide (a ≤ x) && decide (x < b))) : scanRow g y 0 = [⟨(y : Int), (a : Int), (b : Int)⟩] := by
  have e1 : ∀ d x, x + d = a → scanRow g y x = scanRow g y a := by
    intro d
    induction d with
    | zero => intro x hx; rw [show x = a by omega]
    | succ d ih =>
      intro x hx
      rw [scan_false g y x (by omega) (by rw [h x (by omega)]; simp; omega)]
      exact ih (x + 1) (by omega)
  have e2 : ∀ d x, x + d = b → a ≤ x → endAt g y (16 - x) x = b := by
    intro d
    induction d with
    | zero =>
      intro x hx ha
      rw [show x = b by omega]
      apply endAt_stop
      by_cases hb' : b < 16
      · right; rw [h b hb']; simp
      · left; omega
    | succ d ih =>
      intro x hx ha
      rw [endAt_step g y x (by omega) (by rw [h x (by omega)]; simp; omega)]
      exact ih (x + 1) (by omega) (by omega)
  have e3 : ∀ d x, 16 ≤ x + d → b ≤ x → scanRow g y x = [] := by
    intro d
    induction d with
    | zero => intro x hx _; exact scan_end g y x (by omega)
    | succ d ih =>
      intro x hx hbx
      by_cases h16 : x < 16
      · rw [scan_false g y x h16 (by rw [h x h16]; simp; omega)]
        exact ih (x + 1) (by omega) (by omega)
      · exact scan_end g y x (by omega)
  rw [e1 a 0 (by omega), scan_true g y a (by omega) (by rw [h a (by omega)]; simp; omega), e2 (b - a) a (by omega) (Nat.le_refl _), e3 16 (b + 1) (by omega) (by omega)]
/-- the runs of a box: one a row -/
def boxRuns (b0 b1 b2 b3 : Int) (n : Nat) : List Run := (List.range n).map fun (i : Nat) => ⟨b1 + (i : Int), b0, b0 + b2⟩
theorem boxRuns_succ (b0 b1 b2 b3 : Int) (n : Nat) : boxRuns b0 b1 b2 b3 (n + 1) = boxRuns b0 b1 b2 b3 n ++ [⟨b1 + (n : Int), b0, b0 + b2⟩] := by simp [boxRuns, List.range_succ]
theorem boxOk_iff (b0 b1 b2 b3 : Int) : boxOk b0 b1 b2 b3 = true ↔ 0 ≤ b0 ∧ b0 < 16 ∧ 0 ≤ b1 ∧ b1 < 16 ∧ 1 ≤ b2 ∧ b2 ≤ 16 - b0 ∧ 1 ≤ b3 ∧ b3 ≤ 16 - b1 := by simp [boxOk]
theorem runs_box (b0 b1 b2 b3 : Int) (h : boxOk b0 b1 b2 b3 = true) : runsL (gso (inBox b0 b1 b2 b3) 256) = boxRuns b0 b1 b2 b3 b3.toNat := by
  have h := (boxOk_iff b0 b1 b2 b3).1 h
  have cell : ∀ y x, y < 16 → x < 16 → gso (inBox b0 b1 b2 b3) 256 (y * 16 + x) = inBox b0 b1 b2 b3 x y := by
    intro y x hy hx
    unfold gso
    rw [show (y * 16 + x) % 16 = x by omega, show (y * 16 + x) / 16 = y by omega, decide_eq_true (by omega), Bool.true_and]
  have key : ∀ n : Nat, n ≤ 16 → runsTo (gso (inBox b0 b1 b2 b3) 256) n = boxRuns b0 b1 b2 b3 (min (n : Int) (b1 + b3) - b1).toNat := by
    intro n
    induction n with
    | zero => intro _; rw [show (min ((0 : Nat) : Int) (b1 + b3) - b1).toNat = 0 by omega]; simp [runsTo, boxRuns]
    | succ n ih =>
      intro hn
      rw [runsTo_succ, ih (by omega)]
      by_cases c1 : (n : Int) < b1
      · rw [scan_none _ n (fun x hx => by rw [cell n x (by omega) hx]; unfold inBox; rw [decide_eq_false (show ¬ b1 ≤ (n : Int) by omega), Bool.and_false, Bool.false_and]), List.append_nil]
        congr 1; omega
      · by_cases c2 : (n : Int) < b1 + b3
        · rw [scan_seg _ n b0.toNat (b0 + b2).toNat (by omega) (by omega) (fun x hx => by
            rw [cell n x (by omega) hx]; unfold inBox
            rw [decide_eq_true (show b1 ≤ (n : Int) by omega), decide_eq_true c2, Bool.and_true, Bool.and_true]
            congr 1
            · rw [decide_eq_decide]; omega
            · rw [decide_eq_decide]; omega)]
          rw [show (min ((n + 1 : Nat) : Int) (b1 + b3) - b1).toNat = (min (n : Int) (b1 + b3) - b1).toNat + 1 by omega, boxRuns_succ]
          congr 2
          rw [show b1 + (((min (n : Int) (b1 + b3) - b1).toNat : Nat) : Int) = (n : Int) by omega, show ((b0.toNat : Nat) : Int) = b0 by omega, show (((b0 + b2).toNat : Nat) : Int) = b0 + b2 by omega]
        · rw [scan_none _ n (fun x hx => by rw [cell n x (by omega) hx]; unfold inBox; rw [decide_eq_false c2, Bool.and_false]), List.append_nil]
          congr 1; omega
  have := key 16 (Nat.le_refl _)
  unfold runsL
  rw [this]
  congr 1; omega
/-- what both answer -/
def boxV (b0 b1 b2 b3 : Int) : List Run × Bool := if boxOk b0 b1 b2 b3 = true then (boxRuns b0 b1 b2 b3 b3.toNat, true) else ([], false)
theorem impl_BoxRegion_eq (b0 b1 b2 b3 : Int) : impl_BoxRegion.f b0 b1 b2 b3 = some (boxV b0 b1 b2 b3) := by
  unfold impl_BoxRegion.f boxV
  by_cases h : boxOk b0 b1 b2 b3 = true
  · rw [if_pos h, if_pos h, runs_box b0 b1 b2 b3 h]
  · rw [if_neg h, if_neg h]

/- The runs of a grid are a region: their grid is the grid, and their area is the number of its pixels. -/

theorem endAt_le (g : Nat → Bool) (y : Nat) : ∀ n x, x ≤ 16 → endAt g y n x ≤ 16 := by
  intro n
  induction n with
  | zero => intro x h; exact h
  | succ n ih =>
    intro x h
    unfold endAt
    split
    · rename_i c; exact ih (x + 1) (by omega)
    · exact h
theorem endAt_in (g : Nat → Bool) (y : Nat) : ∀ n x q, x ≤ q → q < endAt g y n x → g (y * 16 + q) = true := by
  intro n
  induction n with
  | zero => intro x q h1 h2; exact absurd h2 (by simp only [endAt]; omega)
  | succ n ih =>
    intro x q h1 h2
    unfold endAt at h2
    split at h2
    · rename_i c
      by_cases e : q = x
      · subst e; exact c.2
      · exact ih (x + 1) q (by omega) h2
    · omega
theorem endAt_end (g : Nat → Bool) (y : Nat) : ∀ n x, 16 ≤ n + x → x ≤ 16 → endAt g y n x = 16 ∨ g (y * 16 + endAt g y n x) = false := by
  intro n
  induction n with
  | zero => intro x h1 h2; left; simp only [endAt]; omega
  | succ n ih =>
    intro x h1 h2
    unfold endAt
    split
    · rename_i c; exact ih (x + 1) (by omega) (by omega)
    · rename_i c
      by_cases hx : x < 16
      · right
        cases hv : g (y * 16 + x) with
        | true => exact absurd ⟨hx, hv⟩ c
        | false => rfl
      · left; omega
theorem runIn_row (y p : Nat) (a b : Nat) : runIn ⟨(y : Int), (a : Int), (b : Int)⟩ p = (decide (p / 16 = y) && (decide (a ≤ p % 16) && decide (p % 16 < b))) := by
  unfold runIn
  rw [Bool.and_assoc]
  congr 1
  · rw [decide_eq_decide]; simp only; omega
  · congr 1
    · rw [decide_eq_decide]; simp only; omega
    · rw [decide_eq_decide]; simp only; omega
theorem gridF_nil (p : Nat) : gridF [] p = false := rfl
theorem gridF_cons (r : Run) (l : List Run) (p : Nat) : gridF (r :: l) p = (runIn r p || gridF l p) := rfl
theorem gridF_append (l m : List Run) (p : Nat) : gridF (l ++ m) p = (gridF l p || gridF m p) := by unfold gridF; rw [List.any_append]
theorem grid_scan (g : Nat → Bool) (y p : Nat) (hp : p < 256) : ∀ d x, 17 ≤ x + d → gridF (scanRow g y x) p = (decide (p / 16 = y) && (decide (x ≤ p % 16) && g p)) := by
  intro d
  induction d with
  | zero =>
    intro x hx
    rw [scan_end g y x (by omega), gridF_nil, decide_eq_false (show ¬ x ≤ p % 16 by omega), Bool.false_and, Bool.and_false]
  | succ d ih =>
    intro x hx
    by_cases h16 : x < 16
    · by_cases hy : p / 16 = y
      · have hpe : p = y * 16 + p % 16 := by omega
        cases hv : g (y * 16 + x) with
        | true =>
          have he := endAt_ge g y (16 - x) x
          have he2 := endAt_le g y (16 - x) x (by omega)
          have hin := endAt_in g y (16 - x) x
          have hend := endAt_end g y (16 - x) x (by omega) (by omega)
          have hst := endAt_step g y x h16 hv
          have he3 := endAt_ge g y (16 - (x + 1)) (x + 1)
          rw [← hst] at he3
          rw [scan_true g y x h16 hv, gridF_cons, runIn_row, ih _ (by omega)]
          generalize endAt g y (16 - x) x = e at *
          rw [decide_eq_true hy, Bool.true_and, Bool.true_and, Bool.true_and]
          by_cases c1 : x ≤ p % 16
          · rw [decide_eq_true c1, Bool.true_and, Bool.true_and]
            by_cases c2 : p % 16 < e
            · rw [decide_eq_true c2, Bool.true_or, hpe, hin (p % 16) c1 c2]
            · rw [decide_eq_false c2, Bool.false_or]
              by_cases c3 : e + 1 ≤ p % 16
              · rw [decide_eq_true c3, Bool.true_and]
              · rw [decide_eq_false c3, Bool.false_and]
                rcases hend with h | h
                · omega
                · rw [show p % 16 = e by omega] at hpe
                  rw [hpe, h]
          · rw [decide_eq_false c1, Bool.false_and, Bool.false_and, Bool.false_or, decide_eq_false (show ¬ e + 1 ≤ p % 16 by omega), Bool.false_and]
        | false =>
          rw [scan_false g y x h16 hv, ih _ (by omega), decide_eq_true hy, Bool.true_and, Bool.true_and]
          by_cases c : x = p % 16
          · rw [decide_eq_false (show ¬ x + 1 ≤ p % 16 by omega), Bool.false_and, decide_eq_true (show x ≤ p % 16 by omega), Bool.true_and, hpe, ← c, hv]
          · congr 1
            rw [decide_eq_decide]; omega
      · have hall : ∀ d x, 17 ≤ x + d → gridF (scanRow g y x) p = false := by
          intro d
          induction d with
          | zero => intro x hx; rw [scan_end g y x (by omega)]; rfl
          | succ d ih =>
            intro x hx
            by_cases h16 : x < 16
            · cases hv : g (y * 16 + x) with
              | true =>
                have := endAt_ge g y (16 - x) x
                rw [scan_true g y x h16 hv, gridF_cons, runIn_row, decide_eq_false hy, Bool.false_and, Bool.false_or]
                exact ih _ (by omega)
              | false => rw [scan_false g y x h16 hv]; exact ih _ (by omega)
            · rw [scan_end g y x (by omega)]; rfl
        rw [hall 17 x (by omega), decide_eq_false hy, Bool.false_and]
    · rw [scan_end g y x (by omega), gridF_nil, decide_eq_false (show ¬ x ≤ p % 16 by omega), Bool.false_and, Bool.and_false]
theorem grid_runsTo (g : Nat → Bool) (p : Nat) (hp : p < 256) (n : Nat) : gridF (runsTo g n) p = (decide (p / 16 < n) && g p) := by
  induction n with
  | zero => simp [runsTo, gridF]
  | succ n ih =>
    rw [runsTo_succ, gridF_append, ih, grid_scan g n p hp 17 0 (by omega), decide_eq_true (Nat.zero_le _), Bool.true_and]
    by_cases c : p / 16 = n
    · rw [decide_eq_true c, decide_eq_false (show ¬ p / 16 < n by omega), decide_eq_true (show p / 16 < n + 1 by omega), Bool.false_and, Bool.false_or]
    · rw [decide_eq_false c, Bool.false_and, Bool.or_false]
      congr 1
      rw [decide_eq_decide]; omega
/-- The grid of a grid's runs is the grid. -/
theorem grid_runs (g : Nat → Bool) (p : Nat) (hp : p < 256) : gridF (runsL g) p = g p := by
  unfold runsL
  rw [grid_runsTo g p hp, decide_eq_true (show p / 16 < 16 by omega), Bool.true_and]
/-! the runs are valid -/
def rowsFrom (g : Nat → Bool) (y n : Nat) : List Run := (List.range' y n).flatMap fun y => scanRow g y 0
theorem rowsFrom_succ (g : Nat → Bool) (y n : Nat) : rowsFrom g y (n + 1) = scanRow g y 0 ++ rowsFrom g (y + 1) n := by
  simp [rowsFrom, List.range'_succ]
theorem runsL_rows (g : Nat → Bool) : runsL g = rowsFrom g 0 16 := by
  unfold runsL runsTo rowsFrom
  rw [List.range_eq_range']
/-- the run before, if there is one, lies ahead of column x of row y -/
def ahead (y x : Nat) (p : Option Run) : Prop := ∀ r, p = some r → r.f0 < (y : Int) ∨ (r.f0 = (y : Int) ∧ r.f2 < (x : Int))
theorem scan_valid (g : Nat → Bool) (y : Nat) (hy : y < 16) (rest : List Run) (hrest : ∀ p, (∀ r, p = some r → r.f0 ≤ (y : Int)) → validFrom p rest = true) :
    ∀ d x p, 17 ≤ x + d → (ahead y x p ∨ (x = 0 ∧ ∀ r, p = some r → r.f0 < (y : Int))) → validFrom p (scanRow g y x ++ rest) = true := by
  intro d
  induction d with
  | zero =>
    intro x p hx hp
    rw [scan_end g y x (by omega), List.nil_append]
    refine hrest p (fun r hr => ?_)
    rcases hp with hp | hp
    · have := hp r hr; omega
    · have := hp.2 r hr; omega
  | succ d ih =>
    intro x p hx hp
    by_cases h16 : x < 16
    · cases hv : g (y * 16 + x) with
      | true =>
        have he2 := endAt_le g y (16 - x) x (by omega)
        have hst := endAt_step g y x h16 hv
        have he3 := endAt_ge g y (16 - (x + 1)) (x + 1)
        rw [← hst] at he3
        rw [scan_true g y x h16 hv, List.cons_append]
        generalize endAt g y (16 - x) x = e at *
        have hok : runOK ⟨(y : Int), (x : Int), (e : Int)⟩ = true := by rw [runOK_iff]; simp only; omega
        have hnext : validFrom (some ⟨(y : Int), (x : Int), (e : Int)⟩) (scanRow g y (e + 1) ++ rest) = true := by
          refine ih (e + 1) _ (by omega) (.inl (fun r hr => ?_))
          injection hr with hr
          subst hr
          right
          simp only
          exact ⟨trivial, by omega⟩
        cases p with
        | none => simp only [validFrom, hok, hnext, Bool.and_true]
        | some q =>
          have haft : runAfter q ⟨(y : Int), (x : Int), (e : Int)⟩ = true := by
            rw [runAfter_iff]
            simp only
            rcases hp with hp | hp
            · have := hp q rfl; omega
            · have := hp.2 q rfl; omega
          simp only [validFrom, hok, haft, hnext, Bool.and_true]
      | false =>
        rw [scan_false g y x h16 hv]
        refine ih (x + 1) p (by omega) (.inl (fun r hr => ?_))
        rcases hp with hp | hp
        · have := hp r hr; omega
        · have := hp.2 r hr; omega
    · rw [scan_end g y x (by omega), List.nil_append]
      refine hrest p (fun r hr => ?_)
      rcases hp with hp | hp
      · have := hp r hr; omega
      · have := hp.2 r hr; omega
theorem rows_valid (g : Nat → Bool) : ∀ n y : Nat, y + n ≤ 16 → ∀ p : Option Run, (∀ r, p = some r → r.f0 < (y : Int)) → validFrom p (rowsFrom g y n) = true := by
  intro n
  induction n with
  | zero =>
    intro y _ p _
    cases p <;> rfl
  | succ n ih =>
    intro y hy p hp
    rw [rowsFrom_succ]
    exact scan_valid g y (by omega) _ (fun p' hp' => ih (y + 1) (by omega) p' (fun r hr => by have := hp' r hr; omega)) 17 0 p (by omega) (.inr ⟨rfl, hp⟩)
/-- The runs of a grid are a region. -/
theorem runs_valid (g : Nat → Bool) : validR (runsL g) = true := by
  rw [runsL_rows]
  exact rows_valid g 16 0 (by omega) none (fun r hr => by cases hr)
/-! their area -/

/- The connected parts of a grid: the program's search through runs and the reference's search through pixels find the same. -/

theorem adj_symm {q r : Nat} (h : Adj q r) : Adj r q := by unfold Adj at *; omega
theorem reach_congr {g g' : Nat → Bool} (h : ∀ p, p < 256 → g p = g' p) {s q : Nat} (hr : Q.Reach g s q) : Q.Reach g' s q := by
  induction hr with
  | here => exact .here
  | step q r _ ha h2 hg ih => exact .step q r ih ha h2 (by rw [← h r h2]; exact hg)
theorem comp_congr {g g' : Nat → Bool} (h : ∀ p, p < 256 → g p = g' p) (s q : Nat) : comp g s q = comp g' s q := by
  rw [Bool.eq_iff_iff, comp_iff, comp_iff]
  exact ⟨reach_congr h, reach_congr (fun p hp => (h p hp).symm)⟩
/-- what has been seen is a sum of parts -/
def Whole (g seen : Nat → Bool) : Prop := ∀ q r, q < 256 → r < 256 → Adj q r → g q = true → g r = true → seen q = true → seen r = true
theorem comp_rest {g seen g2 : Nat → Bool} (hw : Whole g seen) (h2 : ∀ q, q < 256 → g2 q = (g q && !(seen q))) (p : Nat) (hp : p < 256) (hg : g p = true) (hs : seen p = false) (q : Nat) : comp g2 p q = comp g p q := by
  rw [Bool.eq_iff_iff, comp_iff, comp_iff]
  constructor
  · intro h
    induction h with
    | here => exact .here
    | step q r _ ha hr hgr ih =>
      rw [h2 r hr] at hgr
      exact .step q r ih ha hr (by cases h : g r <;> simp [h] at hgr ⊢)
  · intro h
    have key : ∀ q, Q.Reach g p q → q < 256 ∧ g q = true ∧ seen q = false ∧ Q.Reach g2 p q := by
      intro q h
      induction h with
      | here => exact ⟨hp, hg, hs, .here⟩
      | step q r _ ha hr hgr ih =>
        have hsr : seen r = false := by
          rw [Bool.eq_false_iff]
          intro c
          have := hw r q hr ih.1 (adj_symm ha) hgr ih.2.1 c
          rw [ih.2.2.1] at this
          cases this
        exact ⟨hr, hgr, hsr, .step q r ih.2.2.2 ha hr (by rw [h2 r hr, hgr, hsr]; rfl)⟩
    exact (key q h).2.2.2
theorem whole_add {g seen : Nat → Bool} (hw : Whole g seen) (p : Nat) : Whole g (fun q => seen q || comp g p q) := by
  intro q r hq hr ha hgq hgr h
  have h' : (seen q || comp g p q) = true := h
  show (seen r || comp g p r) = true
  rw [Bool.or_eq_true] at h' ⊢
  rcases h' with h' | h'
  · exact .inl (hw q r hq hr ha hgq hgr h')
  · exact .inr ((comp_iff g p r).2 (.step q r ((comp_iff g p q).1 h') ha hr hgr))
theorem whole_congr {g seen seen' : Nat → Bool} (h : ∀ q, q < 256 → seen q = seen' q) (hw : Whole g seen) : Whole g seen' := by
  intro q r hq hr ha hgq hgr hs
  rw [← h r hr]
  exact hw q r hq hr ha hgq hgr (by rw [h q hq]; exact hs)
/-- the parts that begin at pixel a and later, n pixels, of what is left of a grid -/
noncomputable def partsS : Nat → Nat → (Nat → Bool) → List (List Run)
  | 0, _, _ => []
  | n + 1, a, g => if g a = true then runsL (comp g a) :: partsS n (a + 1) (fun q => g q && !(comp g a q)) else partsS n (a + 1) g
theorem parts_same (g : Nat → Bool) : ∀ (n a : Nat) (seen g2 : Nat → Bool), a + n = 256 → Whole g seen → (∀ q, q < 256 → g2 q = (g q && !(seen q))) →
    partsFrom g ((List.range' a n).filter g) seen = partsS n a g2 := by
  intro n
  induction n with
  | zero => intro a seen g2 _ _ _; rfl
  | succ n ih =>
    intro a seen g2 ha hw h2
    rw [List.range'_succ]
    have ha256 : a < 256 := by omega
    cases hg : g a with
    | false =>
      rw [List.filter_cons_of_neg (by simp [hg])]
      unfold partsS
      rw [h2 a ha256, hg, if_neg (by simp)]
      exact ih (a + 1) seen g2 (by omega) hw h2
    | true =>
      rw [List.filter_cons_of_pos hg]
      unfold partsFrom partsS
      rw [h2 a ha256, hg]
      cases hs : seen a with
      | true =>
        rw [if_pos rfl, if_neg (by simp)]
        exact ih (a + 1) seen g2 (by omega) hw h2
      | false =>
        rw [if_neg (by simp), if_pos (by simp)]
        have hc : ∀ q, comp g2 a q = comp g a q := comp_rest hw h2 a ha256 hg hs
        congr 1
        · exact (runsL_congr (fun p _ => hc p)).symm
        · refine ih (a + 1) _ _ (by omega) (whole_congr (fun q hq => ?_) (whole_add hw a)) (fun q hq => ?_)
          · rw [gso_at _ _ hq, show q / 16 * 16 + q % 16 = q by omega]
          · rw [gso_at _ _ hq, show q / 16 * 16 + q % 16 = q by omega, h2 q hq, hc q]
            cases g q <;> cases seen q <;> cases comp g a q <;> rfl
theorem partsS_congr : ∀ (n a : Nat) (g g' : Nat → Bool), a + n = 256 → (∀ q, q < 256 → g q = g' q) → partsS n a g = partsS n a g' := by
  intro n
  induction n with
  | zero => intro a g g' _ _; rfl
  | succ n ih =>
    intro a g g' ha h
    unfold partsS
    rw [h a (by omega)]
    have hc := comp_congr h a
    split
    · congr 1
      · exact runsL_congr (fun p _ => hc p)
      · exact ih _ _ _ (by omega) (fun q hq => by rw [h q hq, hc q])
    · exact ih _ _ _ (by omega) h
theorem sorted_filter (g : Nat → Bool) : ∀ (n a : Nat) (xs : List Nat), xs.Pairwise (· < ·) → (∀ q ∈ xs, a ≤ q ∧ q < a + n) → (∀ q, a ≤ q → q < a + n → (g q = true ↔ q ∈ xs)) → xs = (List.range' a n).filter g := by
  intro n
  induction n with
  | zero =>
    intro a xs _ h _
    cases xs with
    | nil => rfl
    | cons b t => have := h b (by simp); omega
  | succ n ih =>
    intro a xs hs hb hm
    rw [List.range'_succ]
    cases xs with
    | nil =>
      have hg : ¬ g a = true := fun c => by have := (hm a (by omega) (by omega)).1 c; cases this
      rw [List.filter_cons_of_neg hg]
      exact ih (a + 1) [] hs (fun q hq => by cases hq) (fun q h1 h2 => hm q (by omega) (by omega))
    | cons b t =>
      have hbt := (List.pairwise_cons.1 hs).1
      by_cases e : b = a
      · subst e
        rw [List.filter_cons_of_pos ((hm b (by omega) (by omega)).2 (by simp))]
        congr 1
        refine ih (b + 1) t (List.pairwise_cons.1 hs).2 (fun q hq => ?_) (fun q h1 h2 => ?_)
        · have h1 := hbt q hq
          have h2 := hb q (by simp [hq])
          omega
        · rw [hm q (by omega) (by omega), List.mem_cons]
          constructor
          · rintro (c | c)
            · omega
            · exact c
          · exact .inr
      · have hab : a < b := by have := hb b (by simp); omega
        have hg : ¬ g a = true := fun c => by
          have := (hm a (by omega) (by omega)).1 c
          rcases List.mem_cons.1 this with c | c
          · omega
          · have := hbt a c; omega
        rw [List.filter_cons_of_neg hg]
        refine ih (a + 1) (b :: t) hs (fun q hq => ?_) (fun q h1 h2 => hm q (by omega) (by omega))
        have h2 := hb q hq
        rcases List.mem_cons.1 hq with c | c
        · omega
        · have := hbt q c; omega
theorem pixRun_mem (r : Run) (h : runOK r = true) (q : Nat) : q ∈ pixRun r r.f1.toNat ↔ runIn r q = true := by
  have hr := (runOK_iff r).1 h
  unfold pixRun
  rw [List.mem_map]
  have hi : runIn r q = true ↔ r.f0 = ((q / 16 : Nat) : Int) ∧ r.f1 ≤ ((q % 16 : Nat) : Int) ∧ ((q % 16 : Nat) : Int) < r.f2 := by simp [runIn, and_assoc]
  rw [hi]
  constructor
  · rintro ⟨x, hx, rfl⟩
    rw [List.mem_range'_1] at hx
    omega
  · rintro ⟨h1, h2, h3⟩
    refine ⟨q % 16, ?_, by omega⟩
    rw [List.mem_range'_1]
    omega
theorem pixels_mem (l : List Run) (h : ∀ r ∈ l, runOK r = true) (q : Nat) : q ∈ pixels l ↔ gridF l q = true := by
  unfold pixels gridF
  rw [List.mem_flatMap, List.any_eq_true]
  constructor
  · rintro ⟨r, hr, hq⟩; exact ⟨r, hr, (pixRun_mem r (h r hr) q).1 hq⟩
  · rintro ⟨r, hr, hq⟩; exact ⟨r, hr, (pixRun_mem r (h r hr) q).2 hq⟩
theorem pixRun_sorted (r : Run) (x : Nat) : (pixRun r x).Pairwise (· < ·) := by
  unfold pixRun
  rw [List.pairwise_map]
  exact List.Pairwise.imp (fun h => by omega) (List.pairwise_lt_range' (s := x) (n := r.f2.toNat - x))
theorem pixels_sorted : ∀ (l : List Run) (p : Option Run), validFrom p l = true → (∀ r, p = some r → runOK r = true) → (pixels l).Pairwise (· < ·) ∧ ∀ q ∈ pixels l, ∀ r, p = some r → r.f0.toNat * 16 + r.f2.toNat ≤ q := by
  intro l
  induction l with
  | nil => intro p _ _; exact ⟨List.Pairwise.nil, fun q hq => by cases hq⟩
  | cons r l ih =>
    intro p hv hp
    have hok := validFrom_ok (r :: l) p hv
    have hr := hok r (by simp)
    have hv' : validFrom (some r) l = true := by
      cases p <;> simp [validFrom] at hv <;> exact hv.2
    have h := ih (some r) hv' (fun r' e => by cases e; exact hr)
    have hri := (runOK_iff r).1 hr
    have hcons : pixels (r :: l) = pixRun r r.f1.toNat ++ pixels l := rfl
    rw [hcons]
    have hin : ∀ q ∈ pixRun r r.f1.toNat, r.f0.toNat * 16 + r.f1.toNat ≤ q ∧ q < r.f0.toNat * 16 + r.f2.toNat := by
      intro q hq
      unfold pixRun at hq
      rw [List.mem_map] at hq
      obtain ⟨x, hx, rfl⟩ := hq
      rw [List.mem_range'_1] at hx
      omega
    refine ⟨List.pairwise_append.2 ⟨pixRun_sorted r _, h.1, fun a ha b hb => ?_⟩, fun q hq r' e => ?_⟩
    · have h1 := hin a ha
      have h2 := h.2 b hb r rfl
      omega
    · subst e
      have hr' := (runOK_iff r').1 (hp r' rfl)
      have haf : runAfter r' r = true := by simp [validFrom] at hv; exact hv.1.2
      rw [runAfter_iff] at haf
      rcases List.mem_append.1 hq with c | c
      · have := hin q c; omega
      · have := h.2 q c r rfl; omega
theorem pixels_filter {l : List Run} (h : validR l = true) : pixels l = (List.range' 0 256).filter (gridF l) := by
  have hok := valid_ok h
  refine sorted_filter _ 256 0 _ (pixels_sorted l none h (fun r e => by cases e)).1 (fun q hq => ?_) (fun q _ _ => ?_)
  · have := (pixels_mem l hok q).1 hq
    unfold gridF at this
    rw [List.any_eq_true] at this
    obtain ⟨r, hr, hi⟩ := this
    have h1 := (runOK_iff r).1 (hok r hr)
    have h2 : r.f0 = ((q / 16 : Nat) : Int) := by simp [runIn] at hi; omega
    omega
  · exact (pixels_mem l hok q).symm
theorem parts_valid {l : List Run} (h : validR l = true) : partsFrom (gridF l) (pixels l) (fun _ => false) = partsS 256 0 (gridF l) := by
  rw [pixels_filter h]
  exact parts_same _ 256 0 _ _ (by omega) (fun q r _ _ _ _ _ c => by cases c) (fun q _ => by simp)
theorem partsS_len : ∀ (n a : Nat) (g : Nat → Bool), (partsS n a g).length ≤ n := by
  intro n
  induction n with
  | zero => intro a g; exact Nat.le_refl _
  | succ n ih =>
    intro a g
    unfold partsS
    split
    · rw [List.length_cons]; have := ih (a + 1) (fun q => g q && !(comp g a q)); omega
    · have := ih (a + 1) g; omega
theorem partsS_each : ∀ (n a : Nat) (g : Nat → Bool), ∀ r ∈ partsS n a g, ∃ f, r = runsL f := by
  intro n
  induction n with
  | zero => intro a g r hr; cases hr
  | succ n ih =>
    intro a g r hr
    unfold partsS at hr
    split at hr
    · rcases List.mem_cons.1 hr with c | c
      · exact ⟨_, c⟩
      · exact ih _ _ r c
    · exact ih _ _ r hr
theorem runsL_ne (g : Nat → Bool) (p : Nat) (hp : p < 256) (h : g p = true) : runsL g ≠ [] := by
  intro e
  have := grid_runs g p hp
  rw [e, h] at this
  cases this
theorem partsS_ne : ∀ (n a : Nat) (g : Nat → Bool), a + n ≤ 256 → ∀ r ∈ partsS n a g, r ≠ [] := by
  intro n
  induction n with
  | zero => intro a g _ r hr; cases hr
  | succ n ih =>
    intro a g ha r hr
    unfold partsS at hr
    split at hr
    · rcases List.mem_cons.1 hr with c | c
      · rw [c]
        exact runsL_ne _ a (by omega) ((comp_iff g a a).2 .here)
      · exact ih _ _ (by omega) r c
    · exact ih _ _ (by omega) r hr
theorem parts_runs (g : Nat → Bool) : partsFrom (gridF (runsL g)) (pixels (runsL g)) (fun _ => false) = partsS 256 0 g := by
  rw [parts_valid (runs_valid g)]
  exact partsS_congr 256 0 _ _ (by omega) (fun q hq => grid_runs g q hq)
end Go.Proofs.Ytbgohbinonkhfaa.Pure
