/- A part of the proof that the statement FnExactEdgeOfSaid holds, under no condition of its own: The program's EdgeOf and the reference's return the same, and what is returned is held by nobody else: over lists of numbers alone. -/
import Derived.Test.YtfgeickfheogoaaCFnExactEdgeOf1
namespace Go.Proofs.Ytfgeickfheogoaa.Q
open Go.RowKit Go.Proofs.YtfgeickfheogoaaW.PrintWords Go.Proofs.YtfgeickfheogoaaW.PrintLast Go.Proofs.YtfgeickfheogoaaW.PrintMore
attribute [local go_sem] max2_int min2_int max_two min_two max_three min_three max_four min_four
set_option linter.unusedVariables false
set_option linter.unusedSimpArgs false
/-! ### spec_validRuns: function 53 -/
mutual
def spec_validRuns.l0 : Nat → List (S57) → Int → Option (Bool)
  | 0, _, _ => none
  | k + 1, x0, x3 => if x3 < (x0.length : Int) then (if 0 ≤ x3 then ((spec_inRange.f ((rd_T57 x0 x3).f0) 0 15).bind fun t54003 => (if t54003 = true then ((spec_inRange.f ((rd_T57 x0 x3).f1) 0 15).bind fun t54004 => (if t54004 = true then ((spec_inRange.f ((rd_T57 x0 x3).f2) (wrap64 (((rd_T57 x0 x3).f1) + 1)) 16).bind fun t54005 => (spec_validRuns.j1 k x0 x3 (!t54005) ((rd_T57 x0 x3).f0) ((rd_T57 x0 x3).f1) ((rd_T57 x0 x3).f2))) else (spec_validRuns.j1 k x0 x3 true ((rd_T57 x0 x3).f0) ((rd_T57 x0 x3).f1) ((rd_T57 x0 x3).f2)))) else (spec_validRuns.j1 k x0 x3 true ((rd_T57 x0 x3).f0) ((rd_T57 x0 x3).f1) ((rd_T57 x0 x3).f2)))) else (none)) else (some true)
def spec_validRuns.j1 : Nat → List (S57) → Int → Bool → Int → Int → Int → Option (Bool)
  | 0, _, _, _, _, _, _ => none
  | k + 1, x0, x3, x33, x54003000, x54003001, x54003002 => if x33 = true then (some false) else (if x3 > 0 then (if 0 ≤ (wrap64 (x3 - 1)) then (if (wrap64 (x3 - 1)) < (x0.length : Int) then (if x54003000 < ((rd_T57 x0 (wrap64 (x3 - 1))).f0) then (some false) else (if x54003000 = ((rd_T57 x0 (wrap64 (x3 - 1))).f0) then (if x54003001 ≤ ((rd_T57 x0 (wrap64 (x3 - 1))).f2) then (some false) else (spec_validRuns.l0 k x0 (wrap64 (x3 + 1)))) else (spec_validRuns.l0 k x0 (wrap64 (x3 + 1))))) else (none)) else (none)) else (spec_validRuns.l0 k x0 (wrap64 (x3 + 1))))
end
def spec_validRuns.f (k : Nat) (l0 : List (S57)) : Option (Bool) := spec_validRuns.l0 k l0 0
theorem spec_validRuns.mono_l : ∀ k, (∀ y0 y1, LeO (spec_validRuns.l0 k y0 y1) (spec_validRuns.l0 (k + 1) y0 y1)) ∧ (∀ y0 y1 y2 y3 y4 y5, LeO (spec_validRuns.j1 k y0 y1 y2 y3 y4 y5) (spec_validRuns.j1 (k + 1) y0 y1 y2 y3 y4 y5))
  | 0 => ⟨fun _ _ r h => by simp [spec_validRuns.l0] at h, fun _ _ _ _ _ _ r h => by simp [spec_validRuns.j1] at h⟩
  | k + 1 => by
    obtain ⟨ih0, ih1⟩ := spec_validRuns.mono_l k
    refine ⟨?_, ?_⟩
    · intro y0 y1
      unfold spec_validRuns.l0
      repeat' first
      | (with_reducible exact ih0 _ _)
      | (with_reducible exact ih1 _ _ _ _ _ _)
      | (with_reducible exact LeO.refl _)
      | (with_reducible exact LeO.none _)
      | (with_reducible refine LeO.ite ?_ ?_)
      | (with_reducible refine LeO.bind ?_ (fun _ => ?_))
      | exact ih0 _ _
      | exact ih1 _ _ _ _ _ _
      | exact LeO.none _
      | refine LeO.ite ?_ ?_
      | refine LeO.bind ?_ (fun _ => ?_)
    · intro y0 y1 y2 y3 y4 y5
      unfold spec_validRuns.j1
      repeat' first
      | (with_reducible exact ih0 _ _)
      | (with_reducible exact ih1 _ _ _ _ _ _)
      | (with_reducible exact LeO.refl _)
      | (with_reducible exact LeO.none _)
      | (with_reducible refine LeO.ite ?_ ?_)
      | (with_reducible refine LeO.bind ?_ (fun _ => ?_))
      | exact ih0 _ _
      | exact ih1 _ _ _ _ _ _
      | exact LeO.none _
      | refine LeO.ite ?_ ?_
      | refine LeO.bind ?_ (fun _ => ?_)
theorem spec_validRuns.mono : ∀ a0 k, LeO (spec_validRuns.f k a0) (spec_validRuns.f (k + 1) a0) := by
  intro a0 k
  obtain ⟨ih0, ih1⟩ := spec_validRuns.mono_l k
  unfold spec_validRuns.f
  repeat' first
      | (with_reducible exact ih0 _ _)
      | (with_reducible exact ih1 _ _ _ _ _ _)
      | (with_reducible exact LeO.refl _)
      | (with_reducible exact LeO.none _)
      | (with_reducible refine LeO.ite ?_ ?_)
      | (with_reducible refine LeO.bind ?_ (fun _ => ?_))
      | exact ih0 _ _
      | exact ih1 _ _ _ _ _ _
      | exact LeO.none _
      | refine LeO.ite ?_ ?_
      | refine LeO.bind ?_ (fun _ => ?_)
set_option maxHeartbeats 8000000 in
set_option maxRecDepth 100000 in
theorem spec_validRuns.calls (k : Nat) (A0 : Option Addr) (c0 : Nat) (l0 : List (S57)) (r : Bool) (w : World) (hr0 : Kd.C k57 w A0 l0.length l0) (hc0 : l0.length ≤ c0) (h : spec_validRuns.f k l0 = some r) :
    Calls Try.prog 53 #[.slice A0 l0.length c0] w fun e w' => e = .returned (.bool r) ∧ Below w.heap.size w w' := by
  have hu57 := Try.underlying57
  have HR0 := Aside0.mk hr0
  have HC0 := Aside0.mk hc0
  clear hr0 hc0
  have HB := Aside0.mk (Below.refl w.heap.size w)
  have H : (spec_validRuns.l0 k l0 0) = some r := h
  clear h
  have H' := Aside0.mk H
  clear H
  go_enter Try.func53, Try.ntmps53
  go_wp2
  repeat (go_quiet (fail); try go_wp2)
  go_loopg [3] k (fun kq v3 w' => ∃ (x3_1 : Int), v3 = .int .i64 x3_1 ∧ Aside0 (spec_validRuns.l0 kq l0 x3_1 = some r) ∧ Aside0 (kq ≤ k) ∧ Aside0 (Below w.heap.size w w'))
  case atStart => exact ⟨(0), (by first | rfl | (simp; done) | (simp [*]; done)), H', ⟨Nat.le_refl _⟩, ⟨by repeat (first | (with_reducible first | exact HB.out | apply below_alloc | apply pw_below_drewN | apply below_drew1) | exact HB.out)⟩⟩
  case round =>
    clear H'
    obtain ⟨x3_1, rfl, HA, HK1, HB⟩ := hrel
    cases gk with
    | zero => exact absurd HA.out (by simp [spec_validRuns.l0])
    | succ k1 =>
      have H := HA.out
      clear HA
      simp only [spec_validRuns.l0] at H
      by_cases c2 : x3_1 < (l0.length : Int)
      · rw [if_pos c2] at H
        have c2b0 : decide (x3_1 < (l0.length : Int)) = true := decide_eq_true c2
        clear c2
        by_cases c3 : 0 ≤ x3_1
        · rw [if_pos c3] at H
          have c3b0 : decide (0 ≤ x3_1) = true := decide_eq_true c3
          clear c3
          have HC4 := Aside0.mk H
          clear H
          have p54001 : 0 ≤ (x3_1 : Int) := of_decide_eq_true (by first | (with_reducible assumption) | assumption)
          have q54001 : x3_1 < (l0.length : Int) := of_decide_eq_true (by first | (with_reducible assumption) | assumption)
          obtain ⟨ad54001, e54001, hx54001_0, hx54001_1, hx54001_2⟩ := at_T57 HR0.out x3_1 p54001 q54001
          cases e54001
          replace hx54001_0 := (HB.out.cell (World.block_lt_of_cell? w _ hx54001_0)).trans hx54001_0
          replace hx54001_1 := (HB.out.cell (World.block_lt_of_cell? w _ hx54001_1)).trans hx54001_1
          replace hx54001_2 := (HB.out.cell (World.block_lt_of_cell? w _ hx54001_2)).trans hx54001_2
          replace p54001 := eq_true p54001
          replace q54001 := eq_true q54001
          go_upto_region 5 with (first | ((with_reducible refine gate_dst (N := 4) rfl ?_); refine box_event ?hg (N := 4) ?hd (cs := #[.int .i64 0, .int .i64 0, .int .i64 0]) (t := 57) ?hr ?_; (case hd => rfl); (case hg => rfl); (case hr => first | (go_simp; done) | (go_simp; rfl)); intro gb54002 hg w5 hbox hb; have n0_ := Aside0.mk (below_step (by repeat (first | (with_reducible first | exact HB.out | apply below_alloc | apply pw_below_drewN | apply below_drew1) | exact HB.out)) hb); have n1_ := Aside0.mk (hbox); have n2_ := Aside0.mk ((by rw [hg]; exact (below_size (by repeat (first | (with_reducible first | exact HB.out | apply below_alloc | apply pw_below_drewN | apply below_drew1) | exact HB.out))) : w.heap.size ≤ gb54002)); have n3_ := Aside0.mk ((by rw [hg]; exact (below_size (by repeat (first | (with_reducible first | exact HB.out | apply below_alloc | apply pw_below_drewN | apply below_drew1) | exact HB.out))) : w.heap.size ≤ gb54002)); clear HB; have HB := n0_; have BK54002 := n1_; have GW54002 := n2_; have GE54002 := n3_; clear n0_ n1_ n2_ n3_; clear hb hbox hg; have hcz6_0 : w5.cell? ⟨gb54002, 0, none⟩ = some (.int .i64 0) := (blk_cell BK54002.out 0).trans rfl; have hcz6_1 : w5.cell? ⟨gb54002, 1, none⟩ = some (.int .i64 0) := (blk_cell BK54002.out 1).trans rfl; have hcz6_2 : w5.cell? ⟨gb54002, 2, none⟩ = some (.int .i64 0) := (blk_cell BK54002.out 2).trans rfl; have hfz6_0 := blk_frozen BK54002.out 0; have hfz6_1 := blk_frozen BK54002.out 1; have hfz6_2 := blk_frozen BK54002.out 2))
          repeat (go_quiet (first | ((with_reducible refine gate_dst (N := 4) rfl ?_); refine box_event ?hg (N := 4) ?hd (cs := #[.int .i64 0, .int .i64 0, .int .i64 0]) (t := 57) ?hr ?_; (case hd => rfl); (case hg => rfl); (case hr => first | (go_simp; done) | (go_simp; rfl)); intro gb54002 hg w5 hbox hb; have n0_ := Aside0.mk (below_step (by repeat (first | (with_reducible first | exact HB.out | apply below_alloc | apply pw_below_drewN | apply below_drew1) | exact HB.out)) hb); have n1_ := Aside0.mk (hbox); have n2_ := Aside0.mk ((by rw [hg]; exact (below_size (by repeat (first | (with_reducible first | exact HB.out | apply below_alloc | apply pw_below_drewN | apply below_drew1) | exact HB.out))) : w.heap.size ≤ gb54002)); have n3_ := Aside0.mk ((by rw [hg]; exact (below_size (by repeat (first | (with_reducible first | exact HB.out | apply below_alloc | apply pw_below_drewN | apply below_drew1) | exact HB.out))) : w.heap.size ≤ gb54002)); clear HB; have HB := n0_; have BK54002 := n1_; have GW54002 := n2_; have GE54002 := n3_; clear n0_ n1_ n2_ n3_; clear hb hbox hg; have hcz6_0 : w5.cell? ⟨gb54002, 0, none⟩ = some (.int .i64 0) := (blk_cell BK54002.out 0).trans rfl; have hcz6_1 : w5.cell? ⟨gb54002, 1, none⟩ = some (.int .i64 0) := (blk_cell BK54002.out 1).trans rfl; have hcz6_2 : w5.cell? ⟨gb54002, 2, none⟩ = some (.int .i64 0) := (blk_cell BK54002.out 2).trans rfl; have hfz6_0 := blk_frozen BK54002.out 0; have hfz6_1 := blk_frozen BK54002.out 1; have hfz6_2 := blk_frozen BK54002.out 2)); go_upto_region 5 with (first | ((with_reducible refine gate_dst (N := 4) rfl ?_); refine box_event ?hg (N := 4) ?hd (cs := #[.int .i64 0, .int .i64 0, .int .i64 0]) (t := 57) ?hr ?_; (case hd => rfl); (case hg => rfl); (case hr => first | (go_simp; done) | (go_simp; rfl)); intro gb54002 hg w5 hbox hb; have n0_ := Aside0.mk (below_step (by repeat (first | (with_reducible first | exact HB.out | apply below_alloc | apply pw_below_drewN | apply below_drew1) | exact HB.out)) hb); have n1_ := Aside0.mk (hbox); have n2_ := Aside0.mk ((by rw [hg]; exact (below_size (by repeat (first | (with_reducible first | exact HB.out | apply below_alloc | apply pw_below_drewN | apply below_drew1) | exact HB.out))) : w.heap.size ≤ gb54002)); have n3_ := Aside0.mk ((by rw [hg]; exact (below_size (by repeat (first | (with_reducible first | exact HB.out | apply below_alloc | apply pw_below_drewN | apply below_drew1) | exact HB.out))) : w.heap.size ≤ gb54002)); clear HB; have HB := n0_; have BK54002 := n1_; have GW54002 := n2_; have GE54002 := n3_; clear n0_ n1_ n2_ n3_; clear hb hbox hg; have hcz6_0 : w5.cell? ⟨gb54002, 0, none⟩ = some (.int .i64 0) := (blk_cell BK54002.out 0).trans rfl; have hcz6_1 : w5.cell? ⟨gb54002, 1, none⟩ = some (.int .i64 0) := (blk_cell BK54002.out 1).trans rfl; have hcz6_2 : w5.cell? ⟨gb54002, 2, none⟩ = some (.int .i64 0) := (blk_cell BK54002.out 2).trans rfl; have hfz6_0 := blk_frozen BK54002.out 0; have hfz6_1 := blk_frozen BK54002.out 1; have hfz6_2 := blk_frozen BK54002.out 2)))
          (try simp only [Act.put, List.setIfInBounds_toArray, List.set_cons_zero, List.set_cons_succ])
          go_cut [33] (fun v33 wc => ∃ (kq : Nat) (x33_3 : Bool), v33 = .bool x33_3 ∧ Aside0 (spec_validRuns.j1 kq l0 x3_1 x33_3 ((rd_T57 l0 x3_1).f0) ((rd_T57 l0 x3_1).f1) ((rd_T57 l0 x3_1).f2) = some r) ∧ Aside0 (kq ≤ k1) ∧ Aside0 (wc.heap[gb54002]? = some (.cells #[.int .i64 ((rd_T57 l0 x3_1).f0), .int .i64 ((rd_T57 l0 x3_1).f1), .int .i64 ((rd_T57 l0 x3_1).f2)] 57 (0, 0))) ∧ Aside0 (Below w.heap.size w wc))
          case first =>
            have H := HC4.out
            clear HC4
            replace H := Option.bind_eq_some_iff.mp H
            obtain ⟨t54003, A70, H⟩ := H
            replace H : (if t54003 = true then ((spec_inRange.f ((rd_T57 l0 x3_1).f1) 0 15).bind fun t54004 => (if t54004 = true then ((spec_inRange.f ((rd_T57 l0 x3_1).f2) (wrap64 (((rd_T57 l0 x3_1).f1) + 1)) 16).bind fun t54005 => (spec_validRuns.j1 k1 l0 x3_1 (!t54005) ((rd_T57 l0 x3_1).f0) ((rd_T57 l0 x3_1).f1) ((rd_T57 l0 x3_1).f2))) else (spec_validRuns.j1 k1 l0 x3_1 true ((rd_T57 l0 x3_1).f0) ((rd_T57 l0 x3_1).f1) ((rd_T57 l0 x3_1).f2)))) else (spec_validRuns.j1 k1 l0 x3_1 true ((rd_T57 l0 x3_1).f0) ((rd_T57 l0 x3_1).f1) ((rd_T57 l0 x3_1).f2))) = some r := H
            have A7 := Aside0.mk A70
            clear A70
            by_cases c8 : t54003 = true
            · subst c8
              have H1 : ((spec_inRange.f ((rd_T57 l0 x3_1).f1) 0 15).bind fun t54004 => (if t54004 = true then ((spec_inRange.f ((rd_T57 l0 x3_1).f2) (wrap64 (((rd_T57 l0 x3_1).f1) + 1)) 16).bind fun t54005 => (spec_validRuns.j1 k1 l0 x3_1 (!t54005) ((rd_T57 l0 x3_1).f0) ((rd_T57 l0 x3_1).f1) ((rd_T57 l0 x3_1).f2))) else (spec_validRuns.j1 k1 l0 x3_1 true ((rd_T57 l0 x3_1).f0) ((rd_T57 l0 x3_1).f1) ((rd_T57 l0 x3_1).f2)))) = some r := by rw [if_pos rfl] at H; exact H
              clear H
              have H := H1
              clear H1
              replace H := Option.bind_eq_some_iff.mp H
              obtain ⟨t54004, A90, H⟩ := H
              replace H : (if t54004 = true then ((spec_inRange.f ((rd_T57 l0 x3_1).f2) (wrap64 (((rd_T57 l0 x3_1).f1) + 1)) 16).bind fun t54005 => (spec_validRuns.j1 k1 l0 x3_1 (!t54005) ((rd_T57 l0 x3_1).f0) ((rd_T57 l0 x3_1).f1) ((rd_T57 l0 x3_1).f2))) else (spec_validRuns.j1 k1 l0 x3_1 true ((rd_T57 l0 x3_1).f0) ((rd_T57 l0 x3_1).f1) ((rd_T57 l0 x3_1).f2))) = some r := H
              have A9 := Aside0.mk A90
              clear A90
              by_cases c10 : t54004 = true
              · subst c10
                have H1 : ((spec_inRange.f ((rd_T57 l0 x3_1).f2) (wrap64 (((rd_T57 l0 x3_1).f1) + 1)) 16).bind fun t54005 => (spec_validRuns.j1 k1 l0 x3_1 (!t54005) ((rd_T57 l0 x3_1).f0) ((rd_T57 l0 x3_1).f1) ((rd_T57 l0 x3_1).f2))) = some r := by rw [if_pos rfl] at H; exact H
                clear H
                have H := H1
                clear H1
                replace H := Option.bind_eq_some_iff.mp H
                obtain ⟨t54005, A110, H⟩ := H
                replace H : (spec_validRuns.j1 k1 l0 x3_1 (!t54005) ((rd_T57 l0 x3_1).f0) ((rd_T57 l0 x3_1).f1) ((rd_T57 l0 x3_1).f2)) = some r := H
                have A11 := Aside0.mk A110
                clear A110
                have H' := Aside0.mk H
                clear H
                have hcz12_0 : w5.cell? ⟨gb54002, 0, none⟩ = some (.int .i64 0) := (blk_cell BK54002.out 0).trans rfl
                have hcz12_1 : w5.cell? ⟨gb54002, 1, none⟩ = some (.int .i64 0) := (blk_cell BK54002.out 1).trans rfl
                have hcz12_2 : w5.cell? ⟨gb54002, 2, none⟩ = some (.int .i64 0) := (blk_cell BK54002.out 2).trans rfl
                have hfz12_0 := blk_frozen BK54002.out 0
                have hfz12_1 := blk_frozen BK54002.out 1
                have hfz12_2 := blk_frozen BK54002.out 2
                go_wp2_with (first | (go_at_call 57; (with_reducible refine (spec_inRange.calls ((rd_T57 l0 x3_1).f0) 0 15 true _ A7.out).mono ?_); rintro e w' ⟨rfl, ⟨nd, rfl⟩⟩; (try first | exact ⟨rfl, _, World.drewN_drewN _ _ _⟩ | exact ⟨rfl, _, Eq.trans (World.drewN_drewN _ _ _) (congrArg (World.drewN _) (Nat.add_assoc _ _ _))⟩)) | (go_at_call 57; (with_reducible refine (spec_inRange.calls ((rd_T57 l0 x3_1).f1) 0 15 true _ A9.out).mono ?_); rintro e w' ⟨rfl, ⟨nd, rfl⟩⟩; (try first | exact ⟨rfl, _, World.drewN_drewN _ _ _⟩ | exact ⟨rfl, _, Eq.trans (World.drewN_drewN _ _ _) (congrArg (World.drewN _) (Nat.add_assoc _ _ _))⟩)) | (go_at_call 57; (with_reducible refine (spec_inRange.calls ((rd_T57 l0 x3_1).f2) (wrap64 (((rd_T57 l0 x3_1).f1) + 1)) 16 t54005 _ A11.out).mono ?_); rintro e w' ⟨rfl, ⟨nd, rfl⟩⟩; (try first | exact ⟨rfl, _, World.drewN_drewN _ _ _⟩ | exact ⟨rfl, _, Eq.trans (World.drewN_drewN _ _ _) (congrArg (World.drewN _) (Nat.add_assoc _ _ _))⟩)))
                repeat (go_quiet (first | (go_at_call 57; (with_reducible refine (spec_inRange.calls ((rd_T57 l0 x3_1).f0) 0 15 true _ A7.out).mono ?_); rintro e w' ⟨rfl, ⟨nd, rfl⟩⟩; (try first | exact ⟨rfl, _, World.drewN_drewN _ _ _⟩ | exact ⟨rfl, _, Eq.trans (World.drewN_drewN _ _ _) (congrArg (World.drewN _) (Nat.add_assoc _ _ _))⟩)) | (go_at_call 57; (with_reducible refine (spec_inRange.calls ((rd_T57 l0 x3_1).f1) 0 15 true _ A9.out).mono ?_); rintro e w' ⟨rfl, ⟨nd, rfl⟩⟩; (try first | exact ⟨rfl, _, World.drewN_drewN _ _ _⟩ | exact ⟨rfl, _, Eq.trans (World.drewN_drewN _ _ _) (congrArg (World.drewN _) (Nat.add_assoc _ _ _))⟩)) | (go_at_call 57; (with_reducible refine (spec_inRange.calls ((rd_T57 l0 x3_1).f2) (wrap64 (((rd_T57 l0 x3_1).f1) + 1)) 16 t54005 _ A11.out).mono ?_); rintro e w' ⟨rfl, ⟨nd, rfl⟩⟩; (try first | exact ⟨rfl, _, World.drewN_drewN _ _ _⟩ | exact ⟨rfl, _, Eq.trans (World.drewN_drewN _ _ _) (congrArg (World.drewN _) (Nat.add_assoc _ _ _))⟩))); try go_wp2_with (first | (go_at_call 57; (with_reducible refine (spec_inRange.calls ((rd_T57 l0 x3_1).f0) 0 15 true _ A7.out).mono ?_); rintro e w' ⟨rfl, ⟨nd, rfl⟩⟩; (try first | exact ⟨rfl, _, World.drewN_drewN _ _ _⟩ | exact ⟨rfl, _, Eq.trans (World.drewN_drewN _ _ _) (congrArg (World.drewN _) (Nat.add_assoc _ _ _))⟩)) | (go_at_call 57; (with_reducible refine (spec_inRange.calls ((rd_T57 l0 x3_1).f1) 0 15 true _ A9.out).mono ?_); rintro e w' ⟨rfl, ⟨nd, rfl⟩⟩; (try first | exact ⟨rfl, _, World.drewN_drewN _ _ _⟩ | exact ⟨rfl, _, Eq.trans (World.drewN_drewN _ _ _) (congrArg (World.drewN _) (Nat.add_assoc _ _ _))⟩)) | (go_at_call 57; (with_reducible refine (spec_inRange.calls ((rd_T57 l0 x3_1).f2) (wrap64 (((rd_T57 l0 x3_1).f1) + 1)) 16 t54005 _ A11.out).mono ?_); rintro e w' ⟨rfl, ⟨nd, rfl⟩⟩; (try first | exact ⟨rfl, _, World.drewN_drewN _ _ _⟩ | exact ⟨rfl, _, Eq.trans (World.drewN_drewN _ _ _) (congrArg (World.drewN _) (Nat.add_assoc _ _ _))⟩))))
                go_meet
                case rel => exact ⟨_, (!t54005), (by first | rfl | (simp; done) | (simp [*]; done)), H', ⟨by have := HK1.out; first | omega | exact Nat.le_refl _⟩, ⟨by (with_reducible repeat (first | refine blk_drewN ?_ _ | refine blk_drew ?_ | refine blk_alloc ?_ _)); refine blk_put (cs := #[.int .i64 ((rd_T57 l0 x3_1).f0), .int .i64 ((rd_T57 l0 x3_1).f1), .int .i64 0]) ?_ 2 _ rfl; (with_reducible repeat (first | refine blk_drewN ?_ _ | refine blk_drew ?_ | refine blk_alloc ?_ _)); refine blk_put (cs := #[.int .i64 ((rd_T57 l0 x3_1).f0), .int .i64 0, .int .i64 0]) ?_ 1 _ rfl; (with_reducible repeat (first | refine blk_drewN ?_ _ | refine blk_drew ?_ | refine blk_alloc ?_ _)); refine blk_put (cs := #[.int .i64 0, .int .i64 0, .int .i64 0]) ?_ 0 _ rfl; (with_reducible repeat (first | refine blk_drewN ?_ _ | refine blk_drew ?_ | refine blk_alloc ?_ _)); exact BK54002.out⟩, ⟨by repeat (first | (with_reducible first | exact HB.out | apply below_alloc | apply pw_below_drewN | apply below_drew1 | refine below_set ?_ GE54002.out) | exact HB.out)⟩⟩
              · replace c10 := Bool.eq_false_iff.mpr c10
                subst c10
                have H1 : (spec_validRuns.j1 k1 l0 x3_1 true ((rd_T57 l0 x3_1).f0) ((rd_T57 l0 x3_1).f1) ((rd_T57 l0 x3_1).f2)) = some r := by rw [if_neg (show ¬ (false = true) by decide)] at H; exact H
                clear H
                have H := H1
                clear H1
                have H' := Aside0.mk H
                clear H
                have hcz13_0 : w5.cell? ⟨gb54002, 0, none⟩ = some (.int .i64 0) := (blk_cell BK54002.out 0).trans rfl
                have hcz13_1 : w5.cell? ⟨gb54002, 1, none⟩ = some (.int .i64 0) := (blk_cell BK54002.out 1).trans rfl
                have hcz13_2 : w5.cell? ⟨gb54002, 2, none⟩ = some (.int .i64 0) := (blk_cell BK54002.out 2).trans rfl
                have hfz13_0 := blk_frozen BK54002.out 0
                have hfz13_1 := blk_frozen BK54002.out 1
                have hfz13_2 := blk_frozen BK54002.out 2
                go_wp2_with (first | (go_at_call 57; (with_reducible refine (spec_inRange.calls ((rd_T57 l0 x3_1).f0) 0 15 true _ A7.out).mono ?_); rintro e w' ⟨rfl, ⟨nd, rfl⟩⟩; (try first | exact ⟨rfl, _, World.drewN_drewN _ _ _⟩ | exact ⟨rfl, _, Eq.trans (World.drewN_drewN _ _ _) (congrArg (World.drewN _) (Nat.add_assoc _ _ _))⟩)) | (go_at_call 57; (with_reducible refine (spec_inRange.calls ((rd_T57 l0 x3_1).f1) 0 15 false _ A9.out).mono ?_); rintro e w' ⟨rfl, ⟨nd, rfl⟩⟩; (try first | exact ⟨rfl, _, World.drewN_drewN _ _ _⟩ | exact ⟨rfl, _, Eq.trans (World.drewN_drewN _ _ _) (congrArg (World.drewN _) (Nat.add_assoc _ _ _))⟩)))
                repeat (go_quiet (first | (go_at_call 57; (with_reducible refine (spec_inRange.calls ((rd_T57 l0 x3_1).f0) 0 15 true _ A7.out).mono ?_); rintro e w' ⟨rfl, ⟨nd, rfl⟩⟩; (try first | exact ⟨rfl, _, World.drewN_drewN _ _ _⟩ | exact ⟨rfl, _, Eq.trans (World.drewN_drewN _ _ _) (congrArg (World.drewN _) (Nat.add_assoc _ _ _))⟩)) | (go_at_call 57; (with_reducible refine (spec_inRange.calls ((rd_T57 l0 x3_1).f1) 0 15 false _ A9.out).mono ?_); rintro e w' ⟨rfl, ⟨nd, rfl⟩⟩; (try first | exact ⟨rfl, _, World.drewN_drewN _ _ _⟩ | exact ⟨rfl, _, Eq.trans (World.drewN_drewN _ _ _) (congrArg (World.drewN _) (Nat.add_assoc _ _ _))⟩))); try go_wp2_with (first | (go_at_call 57; (with_reducible refine (spec_inRange.calls ((rd_T57 l0 x3_1).f0) 0 15 true _ A7.out).mono ?_); rintro e w' ⟨rfl, ⟨nd, rfl⟩⟩; (try first | exact ⟨rfl, _, World.drewN_drewN _ _ _⟩ | exact ⟨rfl, _, Eq.trans (World.drewN_drewN _ _ _) (congrArg (World.drewN _) (Nat.add_assoc _ _ _))⟩)) | (go_at_call 57; (with_reducible refine (spec_inRange.calls ((rd_T57 l0 x3_1).f1) 0 15 false _ A9.out).mono ?_); rintro e w' ⟨rfl, ⟨nd, rfl⟩⟩; (try first | exact ⟨rfl, _, World.drewN_drewN _ _ _⟩ | exact ⟨rfl, _, Eq.trans (World.drewN_drewN _ _ _) (congrArg (World.drewN _) (Nat.add_assoc _ _ _))⟩))))
                go_meet
                case rel => exact ⟨_, (true), (by first | rfl | (simp; done) | (simp [*]; done)), H', ⟨by have := HK1.out; first | omega | exact Nat.le_refl _⟩, ⟨by (with_reducible repeat (first | refine blk_drewN ?_ _ | refine blk_drew ?_ | refine blk_alloc ?_ _)); refine blk_put (cs := #[.int .i64 ((rd_T57 l0 x3_1).f0), .int .i64 ((rd_T57 l0 x3_1).f1), .int .i64 0]) ?_ 2 _ rfl; (with_reducible repeat (first | refine blk_drewN ?_ _ | refine blk_drew ?_ | refine blk_alloc ?_ _)); refine blk_put (cs := #[.int .i64 ((rd_T57 l0 x3_1).f0), .int .i64 0, .int .i64 0]) ?_ 1 _ rfl; (with_reducible repeat (first | refine blk_drewN ?_ _ | refine blk_drew ?_ | refine blk_alloc ?_ _)); refine blk_put (cs := #[.int .i64 0, .int .i64 0, .int .i64 0]) ?_ 0 _ rfl; (with_reducible repeat (first | refine blk_drewN ?_ _ | refine blk_drew ?_ | refine blk_alloc ?_ _)); exact BK54002.out⟩, ⟨by repeat (first | (with_reducible first | exact HB.out | apply below_alloc | apply pw_below_drewN | apply below_drew1 | refine below_set ?_ GE54002.out) | exact HB.out)⟩⟩
            · replace c8 := Bool.eq_false_iff.mpr c8
              subst c8
              have H1 : (spec_validRuns.j1 k1 l0 x3_1 true ((rd_T57 l0 x3_1).f0) ((rd_T57 l0 x3_1).f1) ((rd_T57 l0 x3_1).f2)) = some r := by rw [if_neg (show ¬ (false = true) by decide)] at H; exact H
              clear H
              have H := H1
              clear H1
              have H' := Aside0.mk H
              clear H
              have hcz14_0 : w5.cell? ⟨gb54002, 0, none⟩ = some (.int .i64 0) := (blk_cell BK54002.out 0).trans rfl
              have hcz14_1 : w5.cell? ⟨gb54002, 1, none⟩ = some (.int .i64 0) := (blk_cell BK54002.out 1).trans rfl
              have hcz14_2 : w5.cell? ⟨gb54002, 2, none⟩ = some (.int .i64 0) := (blk_cell BK54002.out 2).trans rfl
              have hfz14_0 := blk_frozen BK54002.out 0
              have hfz14_1 := blk_frozen BK54002.out 1
              have hfz14_2 := blk_frozen BK54002.out 2
              go_wp2_with (first | (go_at_call 57; (with_reducible refine (spec_inRange.calls ((rd_T57 l0 x3_1).f0) 0 15 false _ A7.out).mono ?_); rintro e w' ⟨rfl, ⟨nd, rfl⟩⟩; (try first | exact ⟨rfl, _, World.drewN_drewN _ _ _⟩ | exact ⟨rfl, _, Eq.trans (World.drewN_drewN _ _ _) (congrArg (World.drewN _) (Nat.add_assoc _ _ _))⟩)))
              repeat (go_quiet (first | (go_at_call 57; (with_reducible refine (spec_inRange.calls ((rd_T57 l0 x3_1).f0) 0 15 false _ A7.out).mono ?_); rintro e w' ⟨rfl, ⟨nd, rfl⟩⟩; (try first | exact ⟨rfl, _, World.drewN_drewN _ _ _⟩ | exact ⟨rfl, _, Eq.trans (World.drewN_drewN _ _ _) (congrArg (World.drewN _) (Nat.add_assoc _ _ _))⟩))); try go_wp2_with (first | (go_at_call 57; (with_reducible refine (spec_inRange.calls ((rd_T57 l0 x3_1).f0) 0 15 false _ A7.out).mono ?_); rintro e w' ⟨rfl, ⟨nd, rfl⟩⟩; (try first | exact ⟨rfl, _, World.drewN_drewN _ _ _⟩ | exact ⟨rfl, _, Eq.trans (World.drewN_drewN _ _ _) (congrArg (World.drewN _) (Nat.add_assoc _ _ _))⟩))))
              go_meet
              case rel => exact ⟨_, (true), (by first | rfl | (simp; done) | (simp [*]; done)), H', ⟨by have := HK1.out; first | omega | exact Nat.le_refl _⟩, ⟨by (with_reducible repeat (first | refine blk_drewN ?_ _ | refine blk_drew ?_ | refine blk_alloc ?_ _)); refine blk_put (cs := #[.int .i64 ((rd_T57 l0 x3_1).f0), .int .i64 ((rd_T57 l0 x3_1).f1), .int .i64 0]) ?_ 2 _ rfl; (with_reducible repeat (first | refine blk_drewN ?_ _ | refine blk_drew ?_ | refine blk_alloc ?_ _)); refine blk_put (cs := #[.int .i64 ((rd_T57 l0 x3_1).f0), .int .i64 0, .int .i64 0]) ?_ 1 _ rfl; (with_reducible repeat (first | refine blk_drewN ?_ _ | refine blk_drew ?_ | refine blk_alloc ?_ _)); refine blk_put (cs := #[.int .i64 0, .int .i64 0, .int .i64 0]) ?_ 0 _ rfl; (with_reducible repeat (first | refine blk_drewN ?_ _ | refine blk_drew ?_ | refine blk_alloc ?_ _)); exact BK54002.out⟩, ⟨by repeat (first | (with_reducible first | exact HB.out | apply below_alloc | apply pw_below_drewN | apply below_drew1 | refine below_set ?_ GE54002.out) | exact HB.out)⟩⟩
          case rest =>
            clear HC4
            try clear c1
            try clear c2
            try clear c2b0
            try clear p2
            try clear c3
            try clear c3b0
            try clear c5
            try clear p5
            try clear q5
            try clear hx5
            try clear p6
            try clear c8
            try clear c10
            try clear hcz12_0
            try clear hcz12_1
            try clear hcz12_2
            try clear hcz13_0
            try clear hcz13_1
            try clear hcz13_2
            try clear hcz14_0
            try clear hcz14_1
            try clear hcz14_2
            try clear hcz6_0
            try clear hcz6_1
            try clear hcz6_2
            try clear hfz12_0
            try clear hfz12_1
            try clear hfz12_2
            try clear hfz13_0
            try clear hfz13_1
            try clear hfz13_2
            try clear hfz14_0
            try clear hfz14_1
            try clear hfz14_2
            try clear hfz6_0
            try clear hfz6_1
            try clear hfz6_2
            try clear hx54001_0
            try clear hx54001_1
            try clear hx54001_2
            try clear p54001
            try clear q54001
            obtain ⟨kq, x33_3, rfl, HA, HJ3, BK54002, HB⟩ := hcut
            cases kq with
            | zero => exact absurd HA.out (by simp [spec_validRuns.j1])
            | succ kj3 =>
              have H := HA.out
              clear HA
              simp only [spec_validRuns.j1] at H
              by_cases c15 : x33_3 = true
              · subst c15
                have H1 : (some false) = some r := by rw [if_pos rfl] at H; exact H
                clear H
                have H := H1
                clear H1
                obtain rfl := Option.some.inj H
                go_wp2
                repeat (go_quiet (fail); try go_wp2)
                go_ret
                exact ⟨by first | rfl | (simp [errW_none, errW_some] <;> rfl) | (simp [*, errW_none, errW_some] <;> rfl), by repeat (first | (with_reducible first | exact HB.out | apply below_alloc | apply pw_below_drewN | apply below_drew1 | refine below_set ?_ GE54002.out) | exact HB.out)⟩
              · replace c15 := Bool.eq_false_iff.mpr c15
                subst c15
                have H1 : (if x3_1 > 0 then (if 0 ≤ (wrap64 (x3_1 - 1)) then (if (wrap64 (x3_1 - 1)) < (l0.length : Int) then (if ((rd_T57 l0 x3_1).f0) < ((rd_T57 l0 (wrap64 (x3_1 - 1))).f0) then (some false) else (if ((rd_T57 l0 x3_1).f0) = ((rd_T57 l0 (wrap64 (x3_1 - 1))).f0) then (if ((rd_T57 l0 x3_1).f1) ≤ ((rd_T57 l0 (wrap64 (x3_1 - 1))).f2) then (some false) else (spec_validRuns.l0 kj3 l0 (wrap64 (x3_1 + 1)))) else (spec_validRuns.l0 kj3 l0 (wrap64 (x3_1 + 1))))) else (none)) else (none)) else (spec_validRuns.l0 kj3 l0 (wrap64 (x3_1 + 1)))) = some r := by rw [if_neg (show ¬ (false = true) by decide)] at H; exact H
                clear H
                have H := H1
                clear H1
                by_cases c16 : x3_1 > 0
                · rw [if_pos c16] at H
                  have c16b0 : decide (0 < x3_1) = true := decide_eq_true c16
                  clear c16
                  obtain ⟨ji17, hji17⟩ : ∃ j_ : Int, (wrap64 (x3_1 - 1)) = j_ := ⟨_, rfl⟩
                  replace H : (if 0 ≤ (ji17) then (if (ji17) < (l0.length : Int) then (if ((rd_T57 l0 x3_1).f0) < ((rd_T57 l0 (ji17)).f0) then (some false) else (if ((rd_T57 l0 x3_1).f0) = ((rd_T57 l0 (ji17)).f0) then (if ((rd_T57 l0 x3_1).f1) ≤ ((rd_T57 l0 (ji17)).f2) then (some false) else (spec_validRuns.l0 kj3 l0 (wrap64 (x3_1 + 1)))) else (spec_validRuns.l0 kj3 l0 (wrap64 (x3_1 + 1))))) else (none)) else (none)) = some r := by first | (rw [hji17] at H; exact H) | (simp only [hji17] at H ⊢; exact H)
                  have hji17w : (IntKind.i64.wrap (x3_1 - 1)) = ji17 := (i64_w _).trans hji17
                  by_cases c18 : 0 ≤ (ji17)
                  · rw [if_pos c18] at H
                    have c18b0 : decide (0 ≤ (ji17)) = true := decide_eq_true c18
                    clear c18
                    by_cases c19 : (ji17) < (l0.length : Int)
                    · rw [if_pos c19] at H
                      have c19b0 : decide ((ji17) < (l0.length : Int)) = true := decide_eq_true c19
                      clear c19
                      by_cases c20 : ((rd_T57 l0 x3_1).f0) < ((rd_T57 l0 (ji17)).f0)
                      · rw [if_pos c20] at H
                        have c20b0 : decide (((rd_T57 l0 x3_1).f0) < ((rd_T57 l0 (ji17)).f0)) = true := decide_eq_true c20
                        clear c20
                        obtain rfl := Option.some.inj H
                        have hcz21_0 : wc.cell? ⟨gb54002, 0, none⟩ = some (.int .i64 ((rd_T57 l0 x3_1).f0)) := (blk_cell BK54002.out 0).trans rfl
                        have hcz21_1 : wc.cell? ⟨gb54002, 1, none⟩ = some (.int .i64 ((rd_T57 l0 x3_1).f1)) := (blk_cell BK54002.out 1).trans rfl
                        have hcz21_2 : wc.cell? ⟨gb54002, 2, none⟩ = some (.int .i64 ((rd_T57 l0 x3_1).f2)) := (blk_cell BK54002.out 2).trans rfl
                        have hfz21_0 := blk_frozen BK54002.out 0
                        have hfz21_1 := blk_frozen BK54002.out 1
                        have hfz21_2 := blk_frozen BK54002.out 2
                        have p54006 : 0 ≤ ((ji17) : Int) := of_decide_eq_true (by first | (with_reducible assumption) | assumption)
                        have q54006 : (ji17) < (l0.length : Int) := of_decide_eq_true (by first | (with_reducible assumption) | assumption)
                        obtain ⟨ad54006, e54006, hx54006_0, hx54006_1, hx54006_2⟩ := at_T57 HR0.out (ji17) p54006 q54006
                        obtain rfl : ad54001 = ad54006 := (by injection e54006)
                        replace hx54006_0 := (HB.out.cell (World.block_lt_of_cell? w _ hx54006_0)).trans hx54006_0
                        replace hx54006_1 := (HB.out.cell (World.block_lt_of_cell? w _ hx54006_1)).trans hx54006_1
                        replace hx54006_2 := (HB.out.cell (World.block_lt_of_cell? w _ hx54006_2)).trans hx54006_2
                        replace p54006 := eq_true p54006
                        replace q54006 := eq_true q54006
                        go_wp2
                        repeat (go_quiet (fail); try go_wp2)
                        go_ret
                        exact ⟨by first | rfl | (simp [errW_none, errW_some] <;> rfl) | (simp only [← hji17]; first | rfl | (simp [errW_none, errW_some] <;> rfl)) | (simp [*, errW_none, errW_some] <;> rfl), by repeat (first | (with_reducible first | exact HB.out | apply below_alloc | apply pw_below_drewN | apply below_drew1 | refine below_set ?_ GE54002.out) | exact HB.out)⟩
                      · rw [if_neg c20] at H
                        have c20b0 : decide (((rd_T57 l0 x3_1).f0) < ((rd_T57 l0 (ji17)).f0)) = false := decide_eq_false c20
                        clear c20
                        by_cases c22 : ((rd_T57 l0 x3_1).f0) = ((rd_T57 l0 (ji17)).f0)
                        · rw [if_pos c22] at H
                          have c22b0 : (((rd_T57 l0 x3_1).f0) == ((rd_T57 l0 (ji17)).f0)) = true := beq_iff_eq.mpr c22
                          have c22b1 : (((rd_T57 l0 x3_1).f0) != ((rd_T57 l0 (ji17)).f0)) = false := bne_eq_false_iff_eq.mpr c22
                          clear c22
                          by_cases c23 : ((rd_T57 l0 x3_1).f1) ≤ ((rd_T57 l0 (ji17)).f2)
                          · rw [if_pos c23] at H
                            have c23b0 : decide (((rd_T57 l0 x3_1).f1) ≤ ((rd_T57 l0 (ji17)).f2)) = true := decide_eq_true c23
                            clear c23
                            obtain rfl := Option.some.inj H
                            have hcz24_0 : wc.cell? ⟨gb54002, 0, none⟩ = some (.int .i64 ((rd_T57 l0 x3_1).f0)) := (blk_cell BK54002.out 0).trans rfl
                            have hcz24_1 : wc.cell? ⟨gb54002, 1, none⟩ = some (.int .i64 ((rd_T57 l0 x3_1).f1)) := (blk_cell BK54002.out 1).trans rfl
                            have hcz24_2 : wc.cell? ⟨gb54002, 2, none⟩ = some (.int .i64 ((rd_T57 l0 x3_1).f2)) := (blk_cell BK54002.out 2).trans rfl
                            have hfz24_0 := blk_frozen BK54002.out 0
                            have hfz24_1 := blk_frozen BK54002.out 1
                            have hfz24_2 := blk_frozen BK54002.out 2
                            have p54006 : 0 ≤ ((ji17) : Int) := of_decide_eq_true (by first | (with_reducible assumption) | assumption)
                            have q54006 : (ji17) < (l0.length : Int) := of_decide_eq_true (by first | (with_reducible assumption) | assumption)
                            obtain ⟨ad54006, e54006, hx54006_0, hx54006_1, hx54006_2⟩ := at_T57 HR0.out (ji17) p54006 q54006
                            obtain rfl : ad54001 = ad54006 := (by injection e54006)
                            replace hx54006_0 := (HB.out.cell (World.block_lt_of_cell? w _ hx54006_0)).trans hx54006_0
                            replace hx54006_1 := (HB.out.cell (World.block_lt_of_cell? w _ hx54006_1)).trans hx54006_1
                            replace hx54006_2 := (HB.out.cell (World.block_lt_of_cell? w _ hx54006_2)).trans hx54006_2
                            replace p54006 := eq_true p54006
                            replace q54006 := eq_true q54006
                            have p54007 : 0 ≤ ((ji17) : Int) := of_decide_eq_true (by first | (with_reducible assumption) | assumption)
                            have q54007 : (ji17) < (l0.length : Int) := of_decide_eq_true (by first | (with_reducible assumption) | assumption)
                            obtain ⟨ad54007, e54007, hx54007_0, hx54007_1, hx54007_2⟩ := at_T57 HR0.out (ji17) p54007 q54007
                            obtain rfl : ad54001 = ad54007 := (by injection e54007)
                            replace hx54007_0 := (HB.out.cell (World.block_lt_of_cell? w _ hx54007_0)).trans hx54007_0
                            replace hx54007_1 := (HB.out.cell (World.block_lt_of_cell? w _ hx54007_1)).trans hx54007_1
                            replace hx54007_2 := (HB.out.cell (World.block_lt_of_cell? w _ hx54007_2)).trans hx54007_2
                            replace p54007 := eq_true p54007
                            replace q54007 := eq_true q54007
                            have p54008 : 0 ≤ ((ji17) : Int) := of_decide_eq_true (by first | (with_reducible assumption) | assumption)
                            have q54008 : (ji17) < (l0.length : Int) := of_decide_eq_true (by first | (with_reducible assumption) | assumption)
                            obtain ⟨ad54008, e54008, hx54008_0, hx54008_1, hx54008_2⟩ := at_T57 HR0.out (ji17) p54008 q54008
                            obtain rfl : ad54001 = ad54008 := (by injection e54008)
                            replace hx54008_0 := (HB.out.cell (World.block_lt_of_cell? w _ hx54008_0)).trans hx54008_0
                            replace hx54008_1 := (HB.out.cell (World.block_lt_of_cell? w _ hx54008_1)).trans hx54008_1
                            replace hx54008_2 := (HB.out.cell (World.block_lt_of_cell? w _ hx54008_2)).trans hx54008_2
                            replace p54008 := eq_true p54008
                            replace q54008 := eq_true q54008
                            go_wp2
                            repeat (go_quiet (fail); try go_wp2)
                            go_ret
                            exact ⟨by first | rfl | (simp [errW_none, errW_some] <;> rfl) | (simp only [← hji17]; first | rfl | (simp [errW_none, errW_some] <;> rfl)) | (simp [*, errW_none, errW_some] <;> rfl), by repeat (first | (with_reducible first | exact HB.out | apply below_alloc | apply pw_below_drewN | apply below_drew1 | refine below_set ?_ GE54002.out) | exact HB.out)⟩
                          · rw [if_neg c23] at H
                            have c23b0 : decide (((rd_T57 l0 x3_1).f1) ≤ ((rd_T57 l0 (ji17)).f2)) = false := decide_eq_false c23
                            clear c23
                            have H' := Aside0.mk H
                            clear H
                            have hcz25_0 : wc.cell? ⟨gb54002, 0, none⟩ = some (.int .i64 ((rd_T57 l0 x3_1).f0)) := (blk_cell BK54002.out 0).trans rfl
                            have hcz25_1 : wc.cell? ⟨gb54002, 1, none⟩ = some (.int .i64 ((rd_T57 l0 x3_1).f1)) := (blk_cell BK54002.out 1).trans rfl
                            have hcz25_2 : wc.cell? ⟨gb54002, 2, none⟩ = some (.int .i64 ((rd_T57 l0 x3_1).f2)) := (blk_cell BK54002.out 2).trans rfl
                            have hfz25_0 := blk_frozen BK54002.out 0
                            have hfz25_1 := blk_frozen BK54002.out 1
                            have hfz25_2 := blk_frozen BK54002.out 2
                            have p54006 : 0 ≤ ((ji17) : Int) := of_decide_eq_true (by first | (with_reducible assumption) | assumption)
                            have q54006 : (ji17) < (l0.length : Int) := of_decide_eq_true (by first | (with_reducible assumption) | assumption)
                            obtain ⟨ad54006, e54006, hx54006_0, hx54006_1, hx54006_2⟩ := at_T57 HR0.out (ji17) p54006 q54006
                            obtain rfl : ad54001 = ad54006 := (by injection e54006)
                            replace hx54006_0 := (HB.out.cell (World.block_lt_of_cell? w _ hx54006_0)).trans hx54006_0
                            replace hx54006_1 := (HB.out.cell (World.block_lt_of_cell? w _ hx54006_1)).trans hx54006_1
                            replace hx54006_2 := (HB.out.cell (World.block_lt_of_cell? w _ hx54006_2)).trans hx54006_2
                            replace p54006 := eq_true p54006
                            replace q54006 := eq_true q54006
                            have p54007 : 0 ≤ ((ji17) : Int) := of_decide_eq_true (by first | (with_reducible assumption) | assumption)
                            have q54007 : (ji17) < (l0.length : Int) := of_decide_eq_true (by first | (with_reducible assumption) | assumption)
                            obtain ⟨ad54007, e54007, hx54007_0, hx54007_1, hx54007_2⟩ := at_T57 HR0.out (ji17) p54007 q54007
                            obtain rfl : ad54001 = ad54007 := (by injection e54007)
                            replace hx54007_0 := (HB.out.cell (World.block_lt_of_cell? w _ hx54007_0)).trans hx54007_0
                            replace hx54007_1 := (HB.out.cell (World.block_lt_of_cell? w _ hx54007_1)).trans hx54007_1
                            replace hx54007_2 := (HB.out.cell (World.block_lt_of_cell? w _ hx54007_2)).trans hx54007_2
                            replace p54007 := eq_true p54007
                            replace q54007 := eq_true q54007
                            have p54008 : 0 ≤ ((ji17) : Int) := of_decide_eq_true (by first | (with_reducible assumption) | assumption)
                            have q54008 : (ji17) < (l0.length : Int) := of_decide_eq_true (by first | (with_reducible assumption) | assumption)
                            obtain ⟨ad54008, e54008, hx54008_0, hx54008_1, hx54008_2⟩ := at_T57 HR0.out (ji17) p54008 q54008
                            obtain rfl : ad54001 = ad54008 := (by injection e54008)
                            replace hx54008_0 := (HB.out.cell (World.block_lt_of_cell? w _ hx54008_0)).trans hx54008_0
                            replace hx54008_1 := (HB.out.cell (World.block_lt_of_cell? w _ hx54008_1)).trans hx54008_1
                            replace hx54008_2 := (HB.out.cell (World.block_lt_of_cell? w _ hx54008_2)).trans hx54008_2
                            replace p54008 := eq_true p54008
                            replace q54008 := eq_true q54008
                            go_wp2
                            repeat (go_quiet (fail); try go_wp2)
                            go_roundg kj3
                            case measure => have := HK1.out; have := HJ3.out; omega
                            case rel => exact ⟨(wrap64 (x3_1 + 1)), (by first | rfl | (simp; done) | (simp [*]; done)), H', ⟨by have := HK1.out; have := HJ3.out; omega⟩, ⟨by repeat (first | (with_reducible first | exact HB.out | apply below_alloc | apply pw_below_drewN | apply below_drew1 | refine below_set ?_ GE54002.out) | exact HB.out)⟩⟩
                        · rw [if_neg c22] at H
                          have c22b0 : (((rd_T57 l0 x3_1).f0) == ((rd_T57 l0 (ji17)).f0)) = false := beq_eq_false_iff_ne.mpr c22
                          have c22b1 : (((rd_T57 l0 x3_1).f0) != ((rd_T57 l0 (ji17)).f0)) = true := bne_iff_ne.mpr c22
                          have H' := Aside0.mk H
                          clear H
                          have hcz26_0 : wc.cell? ⟨gb54002, 0, none⟩ = some (.int .i64 ((rd_T57 l0 x3_1).f0)) := (blk_cell BK54002.out 0).trans rfl
                          have hcz26_1 : wc.cell? ⟨gb54002, 1, none⟩ = some (.int .i64 ((rd_T57 l0 x3_1).f1)) := (blk_cell BK54002.out 1).trans rfl
                          have hcz26_2 : wc.cell? ⟨gb54002, 2, none⟩ = some (.int .i64 ((rd_T57 l0 x3_1).f2)) := (blk_cell BK54002.out 2).trans rfl
                          have hfz26_0 := blk_frozen BK54002.out 0
                          have hfz26_1 := blk_frozen BK54002.out 1
                          have hfz26_2 := blk_frozen BK54002.out 2
                          have p54006 : 0 ≤ ((ji17) : Int) := of_decide_eq_true (by first | (with_reducible assumption) | assumption)
                          have q54006 : (ji17) < (l0.length : Int) := of_decide_eq_true (by first | (with_reducible assumption) | assumption)
                          obtain ⟨ad54006, e54006, hx54006_0, hx54006_1, hx54006_2⟩ := at_T57 HR0.out (ji17) p54006 q54006
                          obtain rfl : ad54001 = ad54006 := (by injection e54006)
                          replace hx54006_0 := (HB.out.cell (World.block_lt_of_cell? w _ hx54006_0)).trans hx54006_0
                          replace hx54006_1 := (HB.out.cell (World.block_lt_of_cell? w _ hx54006_1)).trans hx54006_1
                          replace hx54006_2 := (HB.out.cell (World.block_lt_of_cell? w _ hx54006_2)).trans hx54006_2
                          replace p54006 := eq_true p54006
                          replace q54006 := eq_true q54006
                          have p54007 : 0 ≤ ((ji17) : Int) := of_decide_eq_true (by first | (with_reducible assumption) | assumption)
                          have q54007 : (ji17) < (l0.length : Int) := of_decide_eq_true (by first | (with_reducible assumption) | assumption)
                          obtain ⟨ad54007, e54007, hx54007_0, hx54007_1, hx54007_2⟩ := at_T57 HR0.out (ji17) p54007 q54007
                          obtain rfl : ad54001 = ad54007 := (by injection e54007)
                          replace hx54007_0 := (HB.out.cell (World.block_lt_of_cell? w _ hx54007_0)).trans hx54007_0
                          replace hx54007_1 := (HB.out.cell (World.block_lt_of_cell? w _ hx54007_1)).trans hx54007_1
                          replace hx54007_2 := (HB.out.cell (World.block_lt_of_cell? w _ hx54007_2)).trans hx54007_2
                          replace p54007 := eq_true p54007
                          replace q54007 := eq_true q54007
                          go_wp2
                          repeat (go_quiet (fail); try go_wp2)
                          go_roundg kj3
                          case measure => have := HK1.out; have := HJ3.out; omega
                          case rel => exact ⟨(wrap64 (x3_1 + 1)), (by first | rfl | (simp; done) | (simp [*]; done)), H', ⟨by have := HK1.out; have := HJ3.out; omega⟩, ⟨by repeat (first | (with_reducible first | exact HB.out | apply below_alloc | apply pw_below_drewN | apply below_drew1 | refine below_set ?_ GE54002.out) | exact HB.out)⟩⟩
                    · rw [if_neg c19] at H
                      exact absurd H (by simp)
                  · rw [if_neg c18] at H
                    exact absurd H (by simp)
                · rw [if_neg c16] at H
                  have c16b0 : decide (0 < x3_1) = false := decide_eq_false c16
                  clear c16
                  have H' := Aside0.mk H
                  clear H
                  go_wp2
                  repeat (go_quiet (fail); try go_wp2)
                  go_roundg kj3
                  case measure => have := HK1.out; have := HJ3.out; omega
                  case rel => exact ⟨(wrap64 (x3_1 + 1)), (by first | rfl | (simp; done) | (simp [*]; done)), H', ⟨by have := HK1.out; have := HJ3.out; omega⟩, ⟨by repeat (first | (with_reducible first | exact HB.out | apply below_alloc | apply pw_below_drewN | apply below_drew1 | refine below_set ?_ GE54002.out) | exact HB.out)⟩⟩
        · rw [if_neg c3] at H
          exact absurd H (by simp)
      · rw [if_neg c2] at H
        have c2b0 : decide (x3_1 < (l0.length : Int)) = false := decide_eq_false c2
        clear c2
        obtain rfl := Option.some.inj H
        go_wp2
        repeat (go_quiet (fail); try go_wp2)
        go_ret
        exact ⟨by first | rfl | (simp [errW_none, errW_some] <;> rfl) | (simp [*, errW_none, errW_some] <;> rfl), by repeat (first | (with_reducible first | exact HB.out | apply below_alloc | apply pw_below_drewN | apply below_drew1) | exact HB.out)⟩

end Go.Proofs.Ytfgeickfheogoaa.Q

/- Runs: what the program and the reference take for a region. -/
namespace Go.Proofs.Ytfgeickfheogoaa.Pure
open Go.RowKit Go.Proofs.Ytfgeickfheogoaa.Q Go.Proofs.YtfgeickfheogoaaW.PrintWords Go.Proofs.YtfgeickfheogoaaW.PrintLast Go.Proofs.YtfgeickfheogoaaW.PrintMore
set_option linter.unusedVariables false
set_option linter.unusedSimpArgs false

abbrev Run := S57
theorem rdRun (l : List Run) (i : Nat) (h : i < l.length) : rd_T57 l (i : Int) = l[i] := by simp [rd_T57, h]
def runOK (r : Run) : Bool := decide (0 ≤ r.f0) && decide (r.f0 < 16) && decide (0 ≤ r.f1) && decide (r.f1 < r.f2) && decide (r.f2 ≤ 16)
theorem runOK_iff (r : Run) : runOK r = true ↔ 0 ≤ r.f0 ∧ r.f0 < 16 ∧ 0 ≤ r.f1 ∧ r.f1 < r.f2 ∧ r.f2 ≤ 16 := by
  simp [runOK, and_assoc]
def runAfter (p r : Run) : Bool := decide (p.f0 < r.f0) || (decide (p.f0 = r.f0) && decide (p.f2 < r.f1))
theorem runAfter_iff (p r : Run) : runAfter p r = true ↔ p.f0 < r.f0 ∨ (p.f0 = r.f0 ∧ p.f2 < r.f1) := by
  simp [runAfter]
/-- Runs of a region: each in range, and behind the one before it. -/
def validFrom : Option Run → List Run → Bool
  | _, [] => true
  | none, r :: rs => runOK r && validFrom (some r) rs
  | some p, r :: rs => (runOK r && runAfter p r) && validFrom (some r) rs
def validR (l : List Run) : Bool := validFrom none l
def before (l : List Run) (i : Nat) : Option Run := if i = 0 then none else l[i - 1]?
theorem before_zero (l : List Run) : before l 0 = none := rfl
theorem before_succ (l : List Run) (i : Nat) (h : i < l.length) : before l (i + 1) = some l[i] := by simp [before, h]
theorem validFrom_at (l : List Run) (i : Nat) (h : i < l.length) : validFrom (before l i) (l.drop i) = ((runOK l[i] && (match before l i with | none => true | some p => runAfter p l[i])) && validFrom (before l (i + 1)) (l.drop (i + 1))) := by
  rw [List.drop_eq_getElem_cons h, before_succ l i h]
  cases before l i with
  | none => simp [validFrom]
  | some p => rfl
theorem inRange_eq' (n a b : Int) : spec_inRange.f n a b = some (decide (a ≤ n) && decide (n ≤ b)) := by
  unfold spec_inRange.f; by_cases h : a ≤ n <;> simp [h]
theorem sval_j1 (l : List Run) (i k : Nat) (hl : l.length ≤ 9223372036854775807) (h : i < l.length) (b : Bool) :
    spec_validRuns.j1 (k + 1) l i b l[i].f0 l[i].f1 l[i].f2 = if b = true then some false else if (match before l i with | none => true | some p => runAfter p l[i]) = true then spec_validRuns.l0 k l ((i + 1 : Nat) : Int) else some false := by
  simp only [spec_validRuns.j1]
  by_cases hb : b = true
  · rw [if_pos hb, if_pos hb]
  rw [if_neg hb, if_neg hb, w64n i (by omega)]
  cases i with
  | zero => simp [before]
  | succ i =>
    have e : ((i + 1 : Nat) : Int) - 1 = (i : Int) := by omega
    rw [if_pos (by omega), w64 (x := ((i + 1 : Nat) : Int) - 1) (by omega) (by omega), e, if_pos (by omega), if_pos (by omega), rdRun l i (by omega), before_succ l i (by omega)]
    simp only
    by_cases c1 : l[i + 1].f0 < l[i].f0
    · rw [if_pos c1, if_neg (by rw [runAfter_iff]; omega)]
    rw [if_neg c1]
    by_cases c2 : l[i + 1].f0 = l[i].f0
    · rw [if_pos c2]
      by_cases c3 : l[i + 1].f1 ≤ l[i].f2
      · rw [if_pos c3, if_neg (by rw [runAfter_iff]; omega)]
      · rw [if_neg c3, if_pos (by rw [runAfter_iff]; omega)]
    · rw [if_neg c2, if_pos (by rw [runAfter_iff]; omega)]
theorem spec_validRuns_eq (l : List Run) (hl : l.length ≤ 9223372036854775807) (k : Nat) (hk : 2 * l.length + 1 < k) : spec_validRuns.f k l = some (validR l) := by
  have key : ∀ d i k, i + d = l.length → 2 * d < k → spec_validRuns.l0 k l (i : Int) = some (validFrom (before l i) (l.drop i)) := by
    intro d
    induction d with
    | zero =>
      intro i k hi hk
      obtain ⟨k, rfl⟩ : ∃ m, k = m + 1 := ⟨k - 1, by omega⟩
      simp only [spec_validRuns.l0]
      rw [if_neg (by omega), List.drop_of_length_le (by omega)]
      cases before l i <;> rfl
    | succ d ih =>
      intro i k hi hk
      obtain ⟨k, rfl⟩ : ∃ m, k = m + 1 + 1 := ⟨k - 2, by omega⟩
      have hlt : i < l.length := by omega
      have hn := ih (i + 1) k (by omega) (by omega)
      rw [validFrom_at l i hlt]
      simp only [spec_validRuns.l0]
      rw [if_pos (by omega), if_pos (by omega), rdRun l i hlt, inRange_eq', inRange_eq', inRange_eq']
      simp only [Option.bind_some, sval_j1 l i k hl hlt, hn]
      by_cases c1 : 0 ≤ l[i].f0 ∧ l[i].f0 ≤ 15
      · rw [if_pos (by simpa using c1)]
        by_cases c2 : 0 ≤ l[i].f1 ∧ l[i].f1 ≤ 15
        · rw [if_pos (by simpa using c2), w64 (x := l[i].f1 + 1) (by omega) (by omega)]
          by_cases c3 : l[i].f1 + 1 ≤ l[i].f2 ∧ l[i].f2 ≤ 16
          · rw [if_neg (by simp; omega)]
            have : runOK l[i] = true := by rw [runOK_iff]; omega
            rw [this, Bool.true_and]
            cases (match before l i with | none => true | some p => runAfter p l[i]) <;> rfl
          · rw [if_pos (by simp; omega)]
            have : runOK l[i] = false := by rw [← Bool.not_eq_true, runOK_iff]; omega
            rw [this]; rfl
        · rw [if_neg (by simpa using c2), if_pos trivial]
          have : runOK l[i] = false := by rw [← Bool.not_eq_true, runOK_iff]; omega
          rw [this]; rfl
      · rw [if_neg (by simpa using c1), if_pos trivial]
        have : runOK l[i] = false := by rw [← Bool.not_eq_true, runOK_iff]; omega
        rw [this]; rfl
  unfold spec_validRuns.f
  have := key l.length 0 k (by omega) (by omega)
  simpa [before_zero, validR] using this
theorem ival_j1 (l : List Run) (i k : Nat) (hl : l.length ≤ 9223372036854775807) (h : i < l.length) (b : Bool) :
    impl_isRegion.j1 (k + 1) l i l (l.length : Int) i b l[i].f0 l[i].f1 l[i].f2 = if b = true then some false else if (match before l i with | none => true | some p => runAfter p l[i]) = true then impl_isRegion.l0 k l l (l.length : Int) ((i + 1 : Nat) : Int) else some false := by
  simp only [impl_isRegion.j1]
  by_cases hb : b = true
  · rw [if_pos hb, if_pos hb]
  rw [if_neg hb, if_neg hb, w64n i (by omega)]
  cases i with
  | zero => simp [before]
  | succ i =>
    have e : ((i + 1 : Nat) : Int) - 1 = (i : Int) := by omega
    rw [if_neg (by omega), w64 (x := ((i + 1 : Nat) : Int) - 1) (by omega) (by omega), e, if_pos (by omega), if_pos (by omega), rdRun l i (by omega), before_succ l i (by omega)]
    simp only
    by_cases c1 : l[i + 1].f0 < l[i].f0
    · rw [if_pos c1, if_neg (by rw [runAfter_iff]; omega)]
    rw [if_neg c1]
    by_cases c2 : l[i + 1].f0 = l[i].f0
    · rw [if_pos c2]
      by_cases c3 : l[i + 1].f1 ≤ l[i].f2
      · rw [if_pos c3, if_neg (by rw [runAfter_iff]; omega)]
      · rw [if_neg c3, if_pos (by rw [runAfter_iff]; omega)]
    · rw [if_neg c2, if_pos (by rw [runAfter_iff]; omega)]
theorem impl_isRegion_eq (l : List Run) (hl : l.length ≤ 9223372036854775807) (k : Nat) (hk : 2 * l.length + 1 < k) : impl_isRegion.f k l = some (validR l) := by
  have key : ∀ d i k, i + d = l.length → 2 * d < k → impl_isRegion.l0 k l l (l.length : Int) (i : Int) = some (validFrom (before l i) (l.drop i)) := by
    intro d
    induction d with
    | zero =>
      intro i k hi hk
      obtain ⟨k, rfl⟩ : ∃ m, k = m + 1 := ⟨k - 1, by omega⟩
      simp only [impl_isRegion.l0]
      rw [if_neg (by omega), List.drop_of_length_le (by omega)]
      cases before l i <;> rfl
    | succ d ih =>
      intro i k hi hk
      obtain ⟨k, rfl⟩ : ∃ m, k = m + 1 + 1 := ⟨k - 2, by omega⟩
      have hlt : i < l.length := by omega
      have hn := ih (i + 1) k (by omega) (by omega)
      rw [validFrom_at l i hlt]
      simp only [impl_isRegion.l0]
      rw [if_pos (by omega), if_pos (by omega), rdRun l i hlt]
      simp only [if_pos (show (i : Int) < (l.length : Int) by omega), ival_j1 l i k hl hlt, hn]
      by_cases c : runOK l[i] = true
      · rw [c, Bool.true_and]
        rw [runOK_iff] at c
        rw [if_neg (by omega), if_neg (by omega), if_neg (by omega), if_neg (by omega), if_neg (by simp; omega)]
        cases (match before l i with | none => true | some p => runAfter p l[i]) <;> rfl
      · have hc := c
        rw [runOK_iff] at c
        simp only [Bool.not_eq_true] at hc
        rw [hc, Bool.false_and, Bool.false_and]
        try simp only [if_true]
        by_cases c1 : l[i].f0 < 0
        · rw [if_pos c1]
        rw [if_neg c1]
        by_cases c2 : l[i].f0 ≥ 16
        · rw [if_pos c2]
        rw [if_neg c2]
        by_cases c3 : l[i].f1 < 0
        · rw [if_pos c3]
        rw [if_neg c3]
        by_cases c4 : l[i].f2 ≤ l[i].f1
        · rw [if_pos c4]
        rw [if_neg c4, if_pos (by simp; omega)]
  unfold impl_isRegion.f
  have := key l.length 0 k (by omega) (by omega)
  simpa [before_zero, validR] using this
theorem validFrom_ok (l : List Run) : ∀ p, validFrom p l = true → ∀ r ∈ l, runOK r = true := by
  induction l with
  | nil => intro p _ r hr; cases hr
  | cons x xs ih =>
    intro p h r hr
    have h2 : runOK x = true ∧ validFrom (some x) xs = true := by
      cases p with
      | none => simpa [validFrom] using h
      | some p => simp [validFrom] at h; exact ⟨h.1.1, h.2⟩
    rcases List.mem_cons.1 hr with rfl | hr
    · exact h2.1
    · exact ih _ h2.2 r hr
theorem valid_ok {l : List Run} (h : validR l = true) : ∀ r ∈ l, runOK r = true := validFrom_ok l none h
end Go.Proofs.Ytfgeickfheogoaa.Pure

/- impl.RegionHas: false for runs of no region; else whether the pixel is in their grid. -/
namespace Go.Proofs.Ytfgeickfheogoaa.Q
open Go.RowKit Go.Proofs.YtfgeickfheogoaaW.PrintWords Go.Proofs.YtfgeickfheogoaaW.PrintLast Go.Proofs.YtfgeickfheogoaaW.PrintMore
attribute [local go_sem] max2_int min2_int max_two min_two max_three min_three max_four min_four
set_option linter.unusedVariables false
set_option linter.unusedSimpArgs false
open Go.Proofs.Ytfgeickfheogoaa.Pure

theorem valid_ranges {l : List S57} (h : validR l = true) : ∀ r ∈ l, 0 ≤ r.f0 ∧ r.f0 < 16 ∧ 0 ≤ r.f1 ∧ r.f2 ≤ 16 := by
  intro r hr
  have := (runOK_iff r).1 (valid_ok h r hr)
  omega
def impl_RegionHas.f (l0 : List S57) (a1 a2 : Int) : Option Bool := some (validR l0 && hasP (gridF l0) a1 a2)

set_option maxHeartbeats 2000000 in
set_option maxRecDepth 100000 in
theorem impl_RegionHas.calls (A0 : Option Addr) (c0 : Nat) (l0 : List S57) (a1 a2 : Int) (r : Bool) (w : World) (hr0 : Kd.C k57 w A0 l0.length l0) (hc0 : l0.length ≤ c0) (h : impl_RegionHas.f l0 a1 a2 = some r) :
    Calls Try.prog 25 #[.slice A0 l0.length c0, .int .i64 a1, .int .i64 a2] w fun e w' => e = .returned (.bool r) ∧ Below w.heap.size w w' := by
  obtain rfl := Option.some.inj h
  clear h
  have HC := Aside0.mk (impl_isRegion.calls (2 * l0.length + 2) A0 c0 l0 (validR l0) w hr0 hc0 (impl_isRegion_eq l0 hr0.2.1 _ (by omega)))
  have HR := Aside0.mk hr0
  clear hr0
  by_cases hv : validR l0 = true
  · have HV := Aside0.mk (valid_ranges hv)
    rw [hv] at HC ⊢
    clear hv
    go_enter Try.func25, Try.ntmps25
    go_wp2_with (first
      | (go_at_call 55; refine HC.out.mono ?_; rintro e w1 ⟨rfl, hb1⟩; have HB1 := Aside0.mk hb1; clear hb1)
      | (go_at_call 59; refine (gridOf_calls _ _ _ _ (Kd.C_below HR.out HB1.out) HV.out).mono ?_; rintro e w2 ⟨rfl, hb2⟩; have HB2 := Aside0.mk (below_then HB1.out HB1.out.size hb2); clear hb2)
      | (go_at_call 60; refine (has_calls _ _ _ _).mono ?_; rintro e w3 ⟨rfl, hb3⟩; have HB3 := Aside0.mk (below_then HB2.out HB2.out.size hb3); clear hb3))
    go_ret
    exact ⟨by rw [Bool.true_and]; rfl, HB3.out⟩
  · replace hv : validR l0 = false := by simpa using hv
    rw [hv] at HC ⊢
    clear hv
    go_enter Try.func25, Try.ntmps25
    go_wp2_with (first
      | (go_at_call 55; refine HC.out.mono ?_; rintro e w1 ⟨rfl, hb1⟩; have HB1 := Aside0.mk hb1; clear hb1))
    go_ret
    exact ⟨by rw [Bool.false_and]; rfl, HB1.out⟩
end Go.Proofs.Ytfgeickfheogoaa.Q

/- Copies of runs: they are the runs. -/
namespace Go.Proofs.Ytfgeickfheogoaa.Pure
open Go.RowKit Go.Proofs.Ytfgeickfheogoaa.Q Go.Proofs.YtfgeickfheogoaaW.PrintWords Go.Proofs.YtfgeickfheogoaaW.PrintLast Go.Proofs.YtfgeickfheogoaaW.PrintMore
set_option linter.unusedVariables false
set_option linter.unusedSimpArgs false

abbrev LRun := S59
theorem rdLRun (l : List LRun) (i : Nat) (h : i < l.length) : rd_T59 l (i : Int) = l[i] := by simp [rd_T59, h]
/-! copies -/
def cRun (r : LRun) : Run := ⟨r.f0, r.f1, r.f2⟩
theorem toRunS_eq (l : List LRun) (hl : l.length ≤ 2000000) (k : Nat) (hk : l.length < k) : laws_toRunS.f k l = some (l.map cRun) := by
  have h := loop_up 0 l.length (fun k i s => laws_toRunS.l0 k l s (i : Int)) (fun i s => s.length = l.length) (fun i s => s.take i ++ (l.drop i).map cRun)
    (by
      intro i s k hi hs _
      refine .inr ⟨s.set i (cRun l[i]), ?_, by simpa using hs, ?_⟩
      · simp only [laws_toRunS.l0]
        rw [if_pos (by omega), if_pos (by omega), rdLRun l i hi]
        simp only [laws_toRun.f, Option.bind_some]
        rw [if_pos (by omega), w64n i (by omega)]; rfl
      · skip
        rw [take_set s i _ (by omega), List.drop_eq_getElem_cons hi, List.map_cons, List.append_assoc]; rfl)
    (by
      intro s k hs _
      simp only [laws_toRunS.l0]
      rw [if_neg (by omega), List.drop_length]; simp [← hs])
    l.length 0 (List.replicate l.length z57) k (by omega) (by simp) (by omega)
  unfold laws_toRunS.f
  rw [if_pos (by omega), if_pos (by omega)]
  simpa using h
theorem eqRunS_refl (l : List Run) (hl : l.length ≤ 1000000000000) (k : Nat) (hk : l.length < k) : laws_eqRunS.f k l l = some true := by
  have h := loop_up 0 l.length (fun k i (_ : Unit) => laws_eqRunS.l0 k l l (i : Int)) (fun _ _ => True) (fun _ _ => true)
    (by
      intro i s k hi _ _
      refine .inr ⟨(), ?_, trivial, rfl⟩
      simp only [laws_eqRunS.l0]
      rw [if_pos (by omega), if_pos (by omega), if_pos (by omega), w64n i (by omega)]
      simp [laws_eqRun.f])
    (by
      intro s k _ _
      simp only [laws_eqRunS.l0]
      rw [if_neg (by omega)])
    l.length 0 () k (by omega) trivial (by omega)
  unfold laws_eqRunS.f
  rw [if_pos rfl]
  simpa using h
theorem szRunS_eq (l : List LRun) (n : Int) (h0 : 0 ≤ n) (h1 : n ≤ 1048576) (hl : l.length ≤ 9223372036854775807) :
    (l.length ≤ 1048576 ∧ n - (l.length : Int) ≥ 0 ∧ laws_szRunS.f l n = some (n - (l.length : Int))) ∨ laws_szRunS.f l n = some (-1) := by
  unfold laws_szRunS.f
  by_cases c : (l.length : Int) ≤ n
  · left
    rw [w64 (by omega) (by omega), if_neg (by omega)]
    exact ⟨by omega, by omega, rfl⟩
  · right
    rw [w64 (by omega) (by omega), if_pos (by omega)]
end Go.Proofs.Ytfgeickfheogoaa.Pure

/- impl.EdgeOf: the runs of the edge of a region's grid. -/
namespace Go.Proofs.Ytfgeickfheogoaa.Q
open Go.RowKit Go.Proofs.YtfgeickfheogoaaW.PrintWords Go.Proofs.YtfgeickfheogoaaW.PrintLast Go.Proofs.YtfgeickfheogoaaW.PrintMore
attribute [local go_sem] max2_int min2_int max_two min_two max_three min_three max_four min_four
set_option linter.unusedVariables false
set_option linter.unusedSimpArgs false
open Go.Proofs.Ytfgeickfheogoaa.Pure

def impl_EdgeOf.f (l0 : List S57) : Option (List S57) := some (if validR l0 = true then runsL (gso (edgeP (gridF l0)) 256) else [])

set_option maxHeartbeats 1000000 in
set_option maxRecDepth 100000 in
theorem impl_EdgeOf.calls (A0 : Option Addr) (c0 : Nat) (l0 : List S57) (r : List S57) (w : World) (hr0 : Kd.C k57 w A0 l0.length l0) (hc0 : l0.length ≤ c0) (h : impl_EdgeOf.f l0 = some r) :
    Calls Try.prog 36 #[.slice A0 l0.length c0] w fun e w' => ∃ v0_ : Value, e = .returned (v0_) ∧ Kd.R k57 57 w' w.heap.size (fun _ => True) v0_ r ∧ Below w.heap.size w w' := by
  obtain rfl := Option.some.inj h
  clear h
  have HC := Aside0.mk (impl_isRegion.calls (2 * l0.length + 2) A0 c0 l0 (validR l0) w hr0 hc0 (impl_isRegion_eq l0 hr0.2.1 _ (by omega)))
  have HR := Aside0.mk hr0
  clear hr0
  by_cases hv : validR l0 = true
  · rw [if_pos hv]
    have HV := Aside0.mk (valid_ranges hv)
    rw [hv] at HC
    clear hv
    go_enter Try.func36, Try.ntmps36
    go_wp2_with (first
      | (go_at_call 55; refine HC.out.mono ?_; rintro e w1 ⟨rfl, hb1⟩; have HB1 := Aside0.mk hb1; clear hb1)
      | (go_at_call 59; refine (gridOf_calls _ _ _ _ (Kd.C_below HR.out HB1.out) HV.out).mono ?_; rintro e w2 ⟨rfl, hb2⟩; have HB2 := Aside0.mk (below_then HB1.out HB1.out.size hb2); clear hb2)
      | (go_at_call 72; refine (edge_calls _ _).mono ?_; rintro e w3 ⟨rfl, hb3⟩; have HB3 := Aside0.mk (below_then HB2.out HB2.out.size hb3); clear hb3)
      | (go_at_call 65; refine (runs_calls _ _).mono ?_; rintro e w4 ⟨v4, rfl, hr4, hb4⟩; have HR4 := Aside0.mk (Kd.R_lower hr4 HB3.out.size); have HB4 := Aside0.mk (below_then HB3.out HB3.out.size hb4); clear hb4 hr4))
    go_ret
    exact ⟨v4, rfl, HR4.out, HB4.out⟩
  · replace hv : validR l0 = false := by simpa using hv
    rw [if_neg (by simp [hv])]
    rw [hv] at HC
    clear hv
    go_enter Try.func36, Try.ntmps36
    go_wp2_with (first
      | (go_at_call 55; refine HC.out.mono ?_; rintro e w1 ⟨rfl, hb1⟩; have HB1 := Aside0.mk hb1; clear hb1))
    go_ret
    exact ⟨_, rfl, Kd.R_nil _ _ _ _ _, HB1.out⟩
end Go.Proofs.Ytfgeickfheogoaa.Q

namespace Go.Proofs.Ytfgeickfheogoaa.Q
open Go.RowKit Go.Proofs.YtfgeickfheogoaaW.PrintWords Go.Proofs.YtfgeickfheogoaaW.PrintLast Go.Proofs.YtfgeickfheogoaaW.PrintMore
attribute [local go_sem] max2_int min2_int max_two min_two max_three min_three max_four min_four
set_option linter.unusedVariables false
set_option linter.unusedSimpArgs false
/-! ### spec_gridOf: function 58 -/
mutual
def spec_gridOf.l0 : Nat → List (S57) → List Bool → Int → Option (List Bool)
  | 0, _, _, _ => none
  | k + 1, x0, x3, x4 => if x4 < (x0.length : Int) then (if 0 ≤ x4 then (spec_gridOf.l1 k x0 x3 x4 ((rd_T57 x0 x4).f1)) else (none)) else (some x3)
def spec_gridOf.l1 : Nat → List (S57) → List Bool → Int → Int → Option (List Bool)
  | 0, _, _, _, _ => none
  | k + 1, x0, x3, x4, x5 => if 0 ≤ x4 then (if x4 < (x0.length : Int) then (if x5 < ((rd_T57 x0 x4).f2) then (if 0 ≤ (wrap64 ((wrap64 (((rd_T57 x0 x4).f0) * 16)) + x5)) then (if (wrap64 ((wrap64 (((rd_T57 x0 x4).f0) * 16)) + x5)) < (x3.length : Int) then (spec_gridOf.l1 k x0 (x3.set ((wrap64 ((wrap64 (((rd_T57 x0 x4).f0) * 16)) + x5)) : Int).toNat true) x4 (wrap64 (x5 + 1))) else (none)) else (none)) else (spec_gridOf.l0 k x0 x3 (wrap64 (x4 + 1)))) else (none)) else (none)
end
def spec_gridOf.f (k : Nat) (l0 : List (S57)) : Option (List Bool) := if 256 ≤ 281474976710656 then (spec_gridOf.l0 k l0 (List.replicate 256 false) 0) else (none)
theorem spec_gridOf.mono_l : ∀ k, (∀ y0 y1 y2, LeO (spec_gridOf.l0 k y0 y1 y2) (spec_gridOf.l0 (k + 1) y0 y1 y2)) ∧ (∀ y0 y1 y2 y3, LeO (spec_gridOf.l1 k y0 y1 y2 y3) (spec_gridOf.l1 (k + 1) y0 y1 y2 y3))
  | 0 => ⟨fun _ _ _ r h => by simp [spec_gridOf.l0] at h, fun _ _ _ _ r h => by simp [spec_gridOf.l1] at h⟩
  | k + 1 => by
    obtain ⟨ih0, ih1⟩ := spec_gridOf.mono_l k
    refine ⟨?_, ?_⟩
    · intro y0 y1 y2
      unfold spec_gridOf.l0
      repeat' first
      | (with_reducible exact ih0 _ _ _)
      | (with_reducible exact ih1 _ _ _ _)
      | (with_reducible exact LeO.refl _)
      | (with_reducible exact LeO.none _)
      | (with_reducible refine LeO.ite ?_ ?_)
      | (with_reducible refine LeO.bind ?_ (fun _ => ?_))
      | exact ih0 _ _ _
      | exact ih1 _ _ _ _
      | exact LeO.none _
      | refine LeO.ite ?_ ?_
      | refine LeO.bind ?_ (fun _ => ?_)
    · intro y0 y1 y2 y3
      unfold spec_gridOf.l1
      repeat' first
      | (with_reducible exact ih0 _ _ _)
      | (with_reducible exact ih1 _ _ _ _)
      | (with_reducible exact LeO.refl _)
      | (with_reducible exact LeO.none _)
      | (with_reducible refine LeO.ite ?_ ?_)
      | (with_reducible refine LeO.bind ?_ (fun _ => ?_))
      | exact ih0 _ _ _
      | exact ih1 _ _ _ _
      | exact LeO.none _
      | refine LeO.ite ?_ ?_
      | refine LeO.bind ?_ (fun _ => ?_)
theorem spec_gridOf.mono : ∀ a0 k, LeO (spec_gridOf.f k a0) (spec_gridOf.f (k + 1) a0) := by
  intro a0 k
  obtain ⟨ih0, ih1⟩ := spec_gridOf.mono_l k
  unfold spec_gridOf.f
  repeat' first
      | (with_reducible exact ih0 _ _ _)
      | (with_reducible exact ih1 _ _ _ _)
      | (with_reducible exact LeO.refl _)
      | (with_reducible exact LeO.none _)
      | (with_reducible refine LeO.ite ?_ ?_)
      | (with_reducible refine LeO.bind ?_ (fun _ => ?_))
      | exact ih0 _ _ _
      | exact ih1 _ _ _ _
      | exact LeO.none _
      | refine LeO.ite ?_ ?_
      | refine LeO.bind ?_ (fun _ => ?_)
set_option maxHeartbeats 8000000 in
set_option maxRecDepth 100000 in
theorem spec_gridOf.calls (k : Nat) (A0 : Option Addr) (c0 : Nat) (l0 : List (S57)) (r : List Bool) (w : World) (hr0 : Kd.C k57 w A0 l0.length l0) (hc0 : l0.length ≤ c0) (h : spec_gridOf.f k l0 = some r) :
    Calls Try.prog 58 #[.slice A0 l0.length c0] w fun e w' => ∃ v0_ : Value, e = .returned (v0_) ∧ Kd.R Kd.bool 4 w' w.heap.size (fun _ => True) v0_ r ∧ Below w.heap.size w w' := by
  have HR0 := Aside0.mk hr0
  have HC0 := Aside0.mk hc0
  clear hr0 hc0
  have HB := Aside0.mk (Below.refl w.heap.size w)
  have H : (if 256 ≤ 281474976710656 then (spec_gridOf.l0 k l0 (List.replicate 256 false) 0) else (none)) = some r := h
  clear h
  by_cases c2 : 256 ≤ 281474976710656
  · rw [if_pos c2] at H
    have c2b0 := eq_true c2
    have c2b1 : decide (256 ≤ 281474976710656) = true := decide_eq_true c2
    clear c2
    obtain ⟨y59001, hy59001⟩ : ∃ y_ : List Bool, y_ = (List.replicate 256 false) := ⟨_, rfl⟩
    replace H : (spec_gridOf.l0 k l0 y59001 0) = some r := by first | (rw [hy59001]; with_reducible exact H) | (have H2_ := (Option.bind_some _ _).symm.trans H; rw [hy59001]; with_reducible exact H2_) | (have H2_ := (Option.bind_some _ _).symm.trans H; with_reducible exact H2_) | with_reducible exact H | (rw [hy59001]; exact H) | exact H
    have Ny59001 := Aside0.mk hy59001
    clear hy59001
    have H' := Aside0.mk H
    clear H
    go_enter Try.func58, Try.ntmps58
    go_wp2_with (first | ((with_reducible refine gate_dst (N := 6) rfl ?_); refine Kd.R_make Kd.bool _ 4 rfl (N := 6) rfl 62 _ _ rfl 256 rfl rfl Try.underlying62 (.bool false) 1 info4 rfl (by decide) (by omega) false (ok := fun _ => True) (okp := fun _ => True) rfl (fun _ hk => hk) trivial (by omega) (by omega) (Below.refl _ _) (Nat.le_refl _) ?_; intro v59002 w3 ho4 hb hg_ hnew_; clear hg_ hnew_; (first | rw [← Ny59001.out] at ho4 | (simp only [Int.reduceToNat] at ho4; rw [← Ny59001.out] at ho4)); have n0_ := Aside0.mk (Kd.R_lower ho4 (below_size (by repeat (first | (with_reducible first | exact HB.out | apply below_alloc | apply pw_below_drewN | apply below_drew1) | exact HB.out)))); have n1_ := Aside0.mk (below_step (by repeat (first | (with_reducible first | exact HB.out | apply below_alloc | apply pw_below_drewN | apply below_drew1) | exact HB.out)) hb); clear HB; have HO59003 := n0_; have HB := n1_; clear n0_ n1_; clear hb ho4))
    go_loopg [4] k (fun kq v4 w' => ∃ (x3_1 : List Bool) (x4_1 : Int), v4 = .int .i64 x4_1 ∧ Aside0 (spec_gridOf.l0 kq l0 x3_1 x4_1 = some r) ∧ Aside0 (kq ≤ k) ∧ Aside0 (Kd.R Kd.bool 4 w' w.heap.size (fun _ => True) v59002 x3_1) ∧ Aside0 (Below w.heap.size w w'))
    case atStart => exact ⟨(y59001), (0), (by first | rfl | (simp; done) | (simp [*]; done)), H', ⟨Nat.le_refl _⟩, ⟨by (with_reducible repeat (first | apply Kd.R_alloc | apply Kd.R_drewN | apply Kd.R_drew)); exact HO59003.out⟩, ⟨by repeat (first | (with_reducible first | exact HB.out | apply below_alloc | apply pw_below_drewN | apply below_drew1) | exact HB.out)⟩⟩
    case round =>
      clear H'
      try clear c2
      try clear c2b0
      try clear c2b1
      try clear p2
      obtain ⟨x3_1, x4_1, rfl, HA, HK1, HO_3, HB⟩ := hrel
      cases gk with
      | zero => exact absurd HA.out (by simp [spec_gridOf.l0])
      | succ k1 =>
        have H := HA.out
        clear HA
        simp only [spec_gridOf.l0] at H
        by_cases c5 : x4_1 < (l0.length : Int)
        · rw [if_pos c5] at H
          have c5b0 : decide (x4_1 < (l0.length : Int)) = true := decide_eq_true c5
          clear c5
          by_cases c6 : 0 ≤ x4_1
          · rw [if_pos c6] at H
            have c6b0 : decide (0 ≤ x4_1) = true := decide_eq_true c6
            clear c6
            have H' := Aside0.mk H
            clear H
            have p59004 : 0 ≤ (x4_1 : Int) := of_decide_eq_true (by first | (with_reducible assumption) | assumption)
            have q59004 : x4_1 < (l0.length : Int) := of_decide_eq_true (by first | (with_reducible assumption) | assumption)
            obtain ⟨ad59004, e59004, hx59004_0, hx59004_1, hx59004_2⟩ := at_T57 HR0.out x4_1 p59004 q59004
            cases e59004
            replace hx59004_0 := (HB.out.cell (World.block_lt_of_cell? w _ hx59004_0)).trans hx59004_0
            replace hx59004_1 := (HB.out.cell (World.block_lt_of_cell? w _ hx59004_1)).trans hx59004_1
            replace hx59004_2 := (HB.out.cell (World.block_lt_of_cell? w _ hx59004_2)).trans hx59004_2
            replace p59004 := eq_true p59004
            replace q59004 := eq_true q59004
            go_wp2
            go_loopg [5] k1 (fun kq v5 w' => ∃ (x3_2 : List Bool) (x5_2 : Int), v5 = .int .i64 x5_2 ∧ Aside0 (spec_gridOf.l1 kq l0 x3_2 x4_1 x5_2 = some r) ∧ Aside0 (kq ≤ k1) ∧ Aside0 (Kd.R Kd.bool 4 w' w.heap.size (fun _ => True) v59002 x3_2) ∧ Aside0 (Below w.heap.size w w'))
            case atStart => exact ⟨(x3_1), ((rd_T57 l0 x4_1).f1), (by first | rfl | (simp; done) | (simp [*]; done)), H', ⟨Nat.le_refl _⟩, ⟨by (with_reducible repeat (first | apply Kd.R_alloc | apply Kd.R_drewN | apply Kd.R_drew)); exact HO_3.out⟩, ⟨by repeat (first | (with_reducible first | exact HB.out | apply below_alloc | apply pw_below_drewN | apply below_drew1) | exact HB.out)⟩⟩
            case round =>
              clear H'
              try clear c2
              try clear c2b0
              try clear c2b1
              try clear p2
              try clear c5
              try clear c5b0
              try clear p5
              try clear q5
              try clear hx5
              try clear c6
              try clear c6b0
              try clear hx59004_0
              try clear hx59004_1
              try clear hx59004_2
              try clear p2
              try clear p59004
              try clear q59004
              obtain ⟨x3_2, x5_2, rfl, HA, HK2, HO_3, HB⟩ := hrel
              cases gk with
              | zero => exact absurd HA.out (by simp [spec_gridOf.l1])
              | succ k2 =>
                have H := HA.out
                clear HA
                simp only [spec_gridOf.l1] at H
                by_cases c7 : 0 ≤ x4_1
                · rw [if_pos c7] at H
                  have c7b0 : decide (0 ≤ x4_1) = true := decide_eq_true c7
                  clear c7
                  by_cases c8 : x4_1 < (l0.length : Int)
                  · rw [if_pos c8] at H
                    have c8b0 : decide (x4_1 < (l0.length : Int)) = true := decide_eq_true c8
                    clear c8
                    by_cases c9 : x5_2 < ((rd_T57 l0 x4_1).f2)
                    · rw [if_pos c9] at H
                      have c9b0 : decide (x5_2 < ((rd_T57 l0 x4_1).f2)) = true := decide_eq_true c9
                      clear c9
                      obtain ⟨ji10, hji10⟩ : ∃ j_ : Int, (wrap64 ((wrap64 (((rd_T57 l0 x4_1).f0) * 16)) + x5_2)) = j_ := ⟨_, rfl⟩
                      replace H : (if 0 ≤ (ji10) then (if (ji10) < (x3_2.length : Int) then (spec_gridOf.l1 k2 l0 (x3_2.set ((ji10) : Int).toNat true) x4_1 (wrap64 (x5_2 + 1))) else (none)) else (none)) = some r := by first | (rw [hji10] at H; exact H) | (simp only [hji10] at H ⊢; exact H)
                      have hji10w : (IntKind.i64.wrap ((wrap64 (((rd_T57 l0 x4_1).f0) * 16)) + x5_2)) = ji10 := (i64_w _).trans hji10
                      by_cases c11 : 0 ≤ (ji10)
                      · rw [if_pos c11] at H
                        have c11b0 : decide (0 ≤ (ji10)) = true := decide_eq_true c11
                        clear c11
                        by_cases c12 : (ji10) < (x3_2.length : Int)
                        · rw [if_pos c12] at H
                          have c12b0 : decide ((ji10) < (x3_2.length : Int)) = true := decide_eq_true c12
                          clear c12
                          obtain ⟨y59007, hy59007⟩ : ∃ y_ : List Bool, y_ = (x3_2.set ((ji10) : Int).toNat true) := ⟨_, rfl⟩
                          replace H : (spec_gridOf.l1 k2 l0 y59007 x4_1 (wrap64 (x5_2 + 1))) = some r := by first | (rw [hy59007]; with_reducible exact H) | (have H2_ := (Option.bind_some _ _).symm.trans H; rw [hy59007]; with_reducible exact H2_) | (have H2_ := (Option.bind_some _ _).symm.trans H; with_reducible exact H2_) | with_reducible exact H | (rw [hy59007]; exact H) | exact H
                          have Ny59007 := Aside0.mk hy59007
                          clear hy59007
                          have H' := Aside0.mk H
                          clear H
                          have p59005 : 0 ≤ (x4_1 : Int) := of_decide_eq_true (by first | (with_reducible assumption) | assumption)
                          have q59005 : x4_1 < (l0.length : Int) := of_decide_eq_true (by first | (with_reducible assumption) | assumption)
                          obtain ⟨ad59005, e59005, hx59005_0, hx59005_1, hx59005_2⟩ := at_T57 HR0.out x4_1 p59005 q59005
                          obtain rfl : ad59004 = ad59005 := (by injection e59005)
                          replace hx59005_0 := (HB.out.cell (World.block_lt_of_cell? w _ hx59005_0)).trans hx59005_0
                          replace hx59005_1 := (HB.out.cell (World.block_lt_of_cell? w _ hx59005_1)).trans hx59005_1
                          replace hx59005_2 := (HB.out.cell (World.block_lt_of_cell? w _ hx59005_2)).trans hx59005_2
                          replace p59005 := eq_true p59005
                          replace q59005 := eq_true q59005
                          have p59006 : 0 ≤ (x4_1 : Int) := of_decide_eq_true (by first | (with_reducible assumption) | assumption)
                          have q59006 : x4_1 < (l0.length : Int) := of_decide_eq_true (by first | (with_reducible assumption) | assumption)
                          obtain ⟨ad59006, e59006, hx59006_0, hx59006_1, hx59006_2⟩ := at_T57 HR0.out x4_1 p59006 q59006
                          obtain rfl : ad59004 = ad59006 := (by injection e59006)
                          replace hx59006_0 := (HB.out.cell (World.block_lt_of_cell? w _ hx59006_0)).trans hx59006_0
                          replace hx59006_1 := (HB.out.cell (World.block_lt_of_cell? w _ hx59006_1)).trans hx59006_1
                          replace hx59006_2 := (HB.out.cell (World.block_lt_of_cell? w _ hx59006_2)).trans hx59006_2
                          replace p59006 := eq_true p59006
                          replace q59006 := eq_true q59006
                          have p13 : 0 ≤ ((ji10) : Int) := of_decide_eq_true (by first | (with_reducible assumption) | assumption)
                          have q13 : ((ji10) : Int) < ((x3_2.length : Int) : Int) := of_decide_eq_true (by first | (with_reducible assumption) | assumption)
                          obtain ⟨go13, co13, eo13, gb13, gl13, cl13, HG13⟩ := Kd.R_form HO_3.out (by omega)
                          (first | cases eo13 | (injection eo13 with ea_ en_ ec_; (first | subst ea_ | (injection ea_ with ea_; subst ea_)); subst ec_; clear en_))
                          have GB13 := Aside0.mk gb13
                          have GG13 := Aside0.mk HG13
                          clear gb13 gl13 HG13
                          obtain ⟨hx13_0, hf13_0⟩ := Kd.R_celln false HO_3.out ((ji10) : Int) p13 q13
                          replace p13 := eq_true p13
                          replace q13 := eq_true q13
                          have HP14 := Kd.R_putg HO_3.out ((ji10) : Int) true
                          go_wp2_with (first | ((with_reducible refine gate_store (t := 4) (p := 36) rfl ?_); refine store_event (t := 4) (p := 36) (v := ?vo_w15) (w1 := (wr.setCell ⟨go13, ((ji10) : Int).toNat, none⟩ (.bool true))) ?hg ?ho ?hn ?hr ?_; (case ho => rfl); (case hg => rfl); (case hn => rfl); (case hr => first | (go_simp; done) | (go_simp; rfl)); intro w15 hw; have hg : wr.grownBy w15 (some go13) := (by rw [hw]; exact HP14.2); have hp_ : Kd.R Kd.bool 4 w15 w.heap.size (fun _ => True) (.slice (some ⟨go13, 0, none⟩) x3_2.length co13) y59007 := (by rw [hw, Ny59007.out]; exact HP14.1); clear HP14; have n0_ := Aside0.mk (hp_); have n1_ := Aside0.mk ((by rw [hw]; exact below_set (HB.out) GB13.out : Below w.heap.size w w15)); clear HO_3; clear HB; have HO_3 := n0_; have HB := n1_; clear n0_ n1_; clear hg hw hp_))
                          go_roundg k2
                          case measure => have := HK1.out; have := HK2.out; omega
                          case rel => exact ⟨(y59007), (wrap64 (x5_2 + 1)), (by first | rfl | (simp; done) | (simp [*]; done)), H', ⟨by have := HK1.out; have := HK2.out; omega⟩, ⟨by (with_reducible repeat (first | apply Kd.R_alloc | apply Kd.R_drewN | apply Kd.R_drew)); exact HO_3.out⟩, ⟨by repeat (first | (with_reducible first | exact HB.out | apply below_alloc | apply pw_below_drewN | apply below_drew1) | exact HB.out)⟩⟩
                        · rw [if_neg c12] at H
                          exact absurd H (by simp)
                      · rw [if_neg c11] at H
                        exact absurd H (by simp)
                    · rw [if_neg c9] at H
                      have c9b0 : decide (x5_2 < ((rd_T57 l0 x4_1).f2)) = false := decide_eq_false c9
                      clear c9
                      have H' := Aside0.mk H
                      clear H
                      have p59005 : 0 ≤ (x4_1 : Int) := of_decide_eq_true (by first | (with_reducible assumption) | assumption)
                      have q59005 : x4_1 < (l0.length : Int) := of_decide_eq_true (by first | (with_reducible assumption) | assumption)
                      obtain ⟨ad59005, e59005, hx59005_0, hx59005_1, hx59005_2⟩ := at_T57 HR0.out x4_1 p59005 q59005
                      obtain rfl : ad59004 = ad59005 := (by injection e59005)
                      replace hx59005_0 := (HB.out.cell (World.block_lt_of_cell? w _ hx59005_0)).trans hx59005_0
                      replace hx59005_1 := (HB.out.cell (World.block_lt_of_cell? w _ hx59005_1)).trans hx59005_1
                      replace hx59005_2 := (HB.out.cell (World.block_lt_of_cell? w _ hx59005_2)).trans hx59005_2
                      replace p59005 := eq_true p59005
                      replace q59005 := eq_true q59005
                      go_wp2
                      go_roundg k2
                      case measure => have := HK1.out; have := HK2.out; omega
                      case rel => exact ⟨(x3_2), (wrap64 (x4_1 + 1)), (by first | rfl | (simp; done) | (simp [*]; done)), H', ⟨by have := HK1.out; have := HK2.out; omega⟩, ⟨by (with_reducible repeat (first | apply Kd.R_alloc | apply Kd.R_drewN | apply Kd.R_drew)); exact HO_3.out⟩, ⟨by repeat (first | (with_reducible first | exact HB.out | apply below_alloc | apply pw_below_drewN | apply below_drew1) | exact HB.out)⟩⟩
                  · rw [if_neg c8] at H
                    exact absurd H (by simp)
                · rw [if_neg c7] at H
                  exact absurd H (by simp)
          · rw [if_neg c6] at H
            exact absurd H (by simp)
        · rw [if_neg c5] at H
          have c5b0 : decide (x4_1 < (l0.length : Int)) = false := decide_eq_false c5
          clear c5
          obtain rfl := Option.some.inj H
          go_wp2
          go_ret
          exact ⟨_, by first | rfl | (simp [errW_none, errW_some] <;> rfl) | (simp [*, errW_none, errW_some] <;> rfl), by (with_reducible repeat (first | apply Kd.R_alloc | apply Kd.R_drewN | apply Kd.R_drew)); exact HO_3.out, by repeat (first | (with_reducible first | exact HB.out | apply below_alloc | apply pw_below_drewN | apply below_drew1) | exact HB.out)⟩
  · rw [if_neg c2] at H
    exact absurd H (by simp)

end Go.Proofs.Ytfgeickfheogoaa.Q

namespace Go.Proofs.Ytfgeickfheogoaa.Q
open Go.RowKit Go.Proofs.YtfgeickfheogoaaW.PrintWords Go.Proofs.YtfgeickfheogoaaW.PrintLast Go.Proofs.YtfgeickfheogoaaW.PrintMore
attribute [local go_sem] max2_int min2_int max_two min_two max_three min_three max_four min_four
set_option linter.unusedVariables false
set_option linter.unusedSimpArgs false
/-! ### spec_runsOf: function 73 -/
mutual
def spec_runsOf.l0 : Nat → List Bool → List (S57) → Int → Option ((List (S57)))
  | 0, _, _, _ => none
  | k + 1, x0, x3, x4 => if x4 < 16 then (spec_runsOf.l1 k x0 x3 x4 (-1) 0) else (some x3)
def spec_runsOf.l1 : Nat → List Bool → List (S57) → Int → Int → Int → Option ((List (S57)))
  | 0, _, _, _, _, _ => none
  | k + 1, x0, x3, x4, x5, x6 => if x6 ≤ 16 then (if x6 < 16 then (if 0 ≤ (wrap64 ((wrap64 (x4 * 16)) + x6)) then (if (wrap64 ((wrap64 (x4 * 16)) + x6)) < (x0.length : Int) then (spec_runsOf.j2 k x0 x3 x4 x5 x6 (rdOf false x0 (wrap64 ((wrap64 (x4 * 16)) + x6)))) else (none)) else (none)) else (spec_runsOf.j2 k x0 x3 x4 x5 x6 false)) else (spec_runsOf.l0 k x0 x3 (wrap64 (x4 + 1)))
def spec_runsOf.j2 : Nat → List Bool → List (S57) → Int → Int → Int → Bool → Option ((List (S57)))
  | 0, _, _, _, _, _, _ => none
  | k + 1, x0, x3, x4, x5, x6, x7 => if x7 = true then (spec_runsOf.j3 k x0 x3 x4 x5 x6 x7 (decide (x5 < 0))) else (spec_runsOf.j3 k x0 x3 x4 x5 x6 x7 false)
def spec_runsOf.j3 : Nat → List Bool → List (S57) → Int → Int → Int → Bool → Bool → Option ((List (S57)))
  | 0, _, _, _, _, _, _, _ => none
  | k + 1, x0, x3, x4, x5, x6, x7, x32 => if x32 = true then (if x7 = true then (spec_runsOf.l1 k x0 x3 x4 x6 (wrap64 (x6 + 1))) else (if x6 ≥ 0 then (if x3.length < 5864062014805 then (spec_runsOf.l1 k x0 (x3 ++ [(⟨x4, x6, x6⟩ : S57)]) x4 (-1) (wrap64 (x6 + 1))) else (none)) else (spec_runsOf.l1 k x0 x3 x4 x6 (wrap64 (x6 + 1))))) else (if x7 = true then (spec_runsOf.l1 k x0 x3 x4 x5 (wrap64 (x6 + 1))) else (if x5 ≥ 0 then (if x3.length < 5864062014805 then (spec_runsOf.l1 k x0 (x3 ++ [(⟨x4, x5, x6⟩ : S57)]) x4 (-1) (wrap64 (x6 + 1))) else (none)) else (spec_runsOf.l1 k x0 x3 x4 x5 (wrap64 (x6 + 1)))))
end
def spec_runsOf.f (k : Nat) (l0 : List Bool) : Option ((List (S57))) := spec_runsOf.l0 k l0 (([] : List (S57))) 0
theorem spec_runsOf.mono_l : ∀ k, (∀ y0 y1 y2, LeO (spec_runsOf.l0 k y0 y1 y2) (spec_runsOf.l0 (k + 1) y0 y1 y2)) ∧ (∀ y0 y1 y2 y3 y4, LeO (spec_runsOf.l1 k y0 y1 y2 y3 y4) (spec_runsOf.l1 (k + 1) y0 y1 y2 y3 y4)) ∧ (∀ y0 y1 y2 y3 y4 y5, LeO (spec_runsOf.j2 k y0 y1 y2 y3 y4 y5) (spec_runsOf.j2 (k + 1) y0 y1 y2 y3 y4 y5)) ∧ (∀ y0 y1 y2 y3 y4 y5 y6, LeO (spec_runsOf.j3 k y0 y1 y2 y3 y4 y5 y6) (spec_runsOf.j3 (k + 1) y0 y1 y2 y3 y4 y5 y6))
  | 0 => ⟨fun _ _ _ r h => by simp [spec_runsOf.l0] at h, fun _ _ _ _ _ r h => by simp [spec_runsOf.l1] at h, fun _ _ _ _ _ _ r h => by simp [spec_runsOf.j2] at h, fun _ _ _ _ _ _ _ r h => by simp [spec_runsOf.j3] at h⟩
  | k + 1 => by
    obtain ⟨ih0, ih1, ih2, ih3⟩ := spec_runsOf.mono_l k
    refine ⟨?_, ?_, ?_, ?_⟩
    · intro y0 y1 y2
      unfold spec_runsOf.l0
      repeat' first
      | (with_reducible exact ih0 _ _ _)
      | (with_reducible exact ih1 _ _ _ _ _)
      | (with_reducible exact ih2 _ _ _ _ _ _)
      | (with_reducible exact ih3 _ _ _ _ _ _ _)
      | (with_reducible exact LeO.refl _)
      | (with_reducible exact LeO.none _)
      | (with_reducible refine LeO.ite ?_ ?_)
      | (with_reducible refine LeO.bind ?_ (fun _ => ?_))
      | exact ih0 _ _ _
      | exact ih1 _ _ _ _ _
      | exact ih2 _ _ _ _ _ _
      | exact ih3 _ _ _ _ _ _ _
      | exact LeO.none _
      | refine LeO.ite ?_ ?_
      | refine LeO.bind ?_ (fun _ => ?_)
    · intro y0 y1 y2 y3 y4
      unfold spec_runsOf.l1
      repeat' first
      | (with_reducible exact ih0 _ _ _)
      | (with_reducible exact ih1 _ _ _ _ _)
      | (with_reducible exact ih2 _ _ _ _ _ _)
      | (with_reducible exact ih3 _ _ _ _ _ _ _)
      | (with_reducible exact LeO.refl _)
      | (with_reducible exact LeO.none _)
      | (with_reducible refine LeO.ite ?_ ?_)
      | (with_reducible refine LeO.bind ?_ (fun _ => ?_))
      | exact ih0 _ _ _
      | exact ih1 _ _ _ _ _
      | exact ih2 _ _ _ _ _ _
      | exact ih3 _ _ _ _ _ _ _
      | exact LeO.none _
      | refine LeO.ite ?_ ?_
      | refine LeO.bind ?_ (fun _ => ?_)
    · intro y0 y1 y2 y3 y4 y5
      unfold spec_runsOf.j2
      repeat' first
      | (with_reducible exact ih0 _ _ _)
      | (with_reducible exact ih1 _ _ _ _ _)
      | (with_reducible exact ih2 _ _ _ _ _ _)
      | (with_reducible exact ih3 _ _ _ _ _ _ _)
      | (with_reducible exact LeO.refl _)
      | (with_reducible exact LeO.none _)
      | (with_reducible refine LeO.ite ?_ ?_)
      | (with_reducible refine LeO.bind ?_ (fun _ => ?_))
      | exact ih0 _ _ _
      | exact ih1 _ _ _ _ _
      | exact ih2 _ _ _ _ _ _
      | exact ih3 _ _ _ _ _ _ _
      | exact LeO.none _
      | refine LeO.ite ?_ ?_
      | refine LeO.bind ?_ (fun _ => ?_)
    · intro y0 y1 y2 y3 y4 y5 y6
      unfold spec_runsOf.j3
      repeat' first
      | (with_reducible exact ih0 _ _ _)
      | (with_reducible exact ih1 _ _ _ _ _)
      | (with_reducible exact ih2 _ _ _ _ _ _)
      | (with_reducible exact ih3 _ _ _ _ _ _ _)
      | (with_reducible exact LeO.refl _)
      | (with_reducible exact LeO.none _)
      | (with_reducible refine LeO.ite ?_ ?_)
      | (with_reducible refine LeO.bind ?_ (fun _ => ?_))
      | exact ih0 _ _ _
      | exact ih1 _ _ _ _ _
      | exact ih2 _ _ _ _ _ _
      | exact ih3 _ _ _ _ _ _ _
      | exact LeO.none _
      | refine LeO.ite ?_ ?_
      | refine LeO.bind ?_ (fun _ => ?_)
theorem spec_runsOf.mono : ∀ a0 k, LeO (spec_runsOf.f k a0) (spec_runsOf.f (k + 1) a0) := by
  intro a0 k
  obtain ⟨ih0, ih1, ih2, ih3⟩ := spec_runsOf.mono_l k
  unfold spec_runsOf.f
  repeat' first
      | (with_reducible exact ih0 _ _ _)
      | (with_reducible exact ih1 _ _ _ _ _)
      | (with_reducible exact ih2 _ _ _ _ _ _)
      | (with_reducible exact ih3 _ _ _ _ _ _ _)
      | (with_reducible exact LeO.refl _)
      | (with_reducible exact LeO.none _)
      | (with_reducible refine LeO.ite ?_ ?_)
      | (with_reducible refine LeO.bind ?_ (fun _ => ?_))
      | exact ih0 _ _ _
      | exact ih1 _ _ _ _ _
      | exact ih2 _ _ _ _ _ _
      | exact ih3 _ _ _ _ _ _ _
      | exact LeO.none _
      | refine LeO.ite ?_ ?_
      | refine LeO.bind ?_ (fun _ => ?_)
set_option maxHeartbeats 8000000 in
set_option maxRecDepth 100000 in
theorem spec_runsOf.calls (k : Nat) (A0 : Option Addr) (c0 : Nat) (l0 : List Bool) (r : List (S57)) (w : World) (hr0 : Kd.C Kd.bool w A0 l0.length l0) (hc0 : l0.length ≤ c0) (h : spec_runsOf.f k l0 = some r) :
    Calls Try.prog 73 #[.slice A0 l0.length c0] w fun e w' => ∃ v0_ : Value, e = .returned (v0_) ∧ Kd.R k57 57 w' w.heap.size (fun _ => True) v0_ r ∧ Below w.heap.size w w' := by
  have hu57 := Try.underlying57
  have HR0 := Aside0.mk hr0
  have HC0 := Aside0.mk hc0
  clear hr0 hc0
  have HB := Aside0.mk (Below.refl w.heap.size w)
  have H : (spec_runsOf.l0 k l0 (([] : List (S57))) 0) = some r := h
  clear h
  obtain ⟨y74001, hy74001⟩ : ∃ y_ : List (S57), y_ = (([] : List (S57))) := ⟨_, rfl⟩
  replace H : (spec_runsOf.l0 k l0 y74001 0) = some r := by first | (rw [hy74001]; with_reducible exact H) | (have H2_ := (Option.bind_some _ _).symm.trans H; rw [hy74001]; with_reducible exact H2_) | (have H2_ := (Option.bind_some _ _).symm.trans H; with_reducible exact H2_) | with_reducible exact H | (rw [hy74001]; exact H) | exact H
  have Ny74001 := Aside0.mk hy74001
  clear hy74001
  have H' := Aside0.mk H
  clear H
  go_enter Try.func73, Try.ntmps73
  go_wp2_with (first | ((with_reducible refine gate_dst (N := 8) rfl ?_); refine Kd.R_lit k57 _ 57 ?hg (N := 8) ?hd (xs := ([] : List (S57))) (inner := []) (ok := fun _ => True) (okp := fun _ => True) ?hr ?hp (fun _ hk => hk) trivial (Below.refl _ _) (Nat.le_refl _) (by simp) ?_; (case hd => rfl); (case hg => rfl); (case hr => first | (go_simp; done) | (go_simp; rfl)); (case hp => exact (Reps.none _ _)); intro v74002 w2 ho3 hb hg_ hnew_; clear hg_ hnew_; (first | rw [← Ny74001.out] at ho3 | (simp only [Int.reduceToNat] at ho3; rw [← Ny74001.out] at ho3)); have n0_ := Aside0.mk (Kd.R_lower ho3 (below_size (by repeat (first | (with_reducible first | exact HB.out | apply below_alloc | apply pw_below_drewN | apply below_drew1) | exact HB.out)))); have n1_ := Aside0.mk (below_step (by repeat (first | (with_reducible first | exact HB.out | apply below_alloc | apply pw_below_drewN | apply below_drew1) | exact HB.out)) hb); clear HB; have HO74003 := n0_; have HB := n1_; clear n0_ n1_; clear hb ho3))
  go_loopg [3, 4] k (fun kq v3 v4 w' => ∃ (x3_1 : List (S57)) (x4_1 : Int), v4 = .int .i64 x4_1 ∧ Aside0 (spec_runsOf.l0 kq l0 x3_1 x4_1 = some r) ∧ Aside0 (kq ≤ k) ∧ Aside0 (Kd.R k57 57 w' w.heap.size (fun _ => True) v3 x3_1) ∧ Aside0 (Below w.heap.size w w'))
  case atStart => exact ⟨(y74001), (0), (by first | rfl | (simp; done) | (simp [*]; done)), H', ⟨Nat.le_refl _⟩, ⟨by (with_reducible repeat (first | apply Kd.R_alloc | apply Kd.R_drewN | apply Kd.R_drew)); exact HO74003.out⟩, ⟨by repeat (first | (with_reducible first | exact HB.out | apply below_alloc | apply pw_below_drewN | apply below_drew1) | exact HB.out)⟩⟩
  case round =>
    clear H'
    try clear p2
    obtain ⟨x3_1, x4_1, rfl, HA, HK1, HO_3, HB⟩ := hrel
    cases gk with
    | zero => exact absurd HA.out (by simp [spec_runsOf.l0])
    | succ k1 =>
      have H := HA.out
      clear HA
      simp only [spec_runsOf.l0] at H
      by_cases c4 : x4_1 < 16
      · rw [if_pos c4] at H
        have c4b0 : decide (x4_1 < 16) = true := decide_eq_true c4
        clear c4
        have H' := Aside0.mk H
        clear H
        go_wp2
        go_loopg [3, 5, 6] k1 (fun kq v3 v5 v6 w' => ∃ (x3_2 : List (S57)) (x5_2 : Int) (x6_2 : Int), v5 = .int .i64 x5_2 ∧ v6 = .int .i64 x6_2 ∧ Aside0 (spec_runsOf.l1 kq l0 x3_2 x4_1 x5_2 x6_2 = some r) ∧ Aside0 (kq ≤ k1) ∧ Aside0 (Kd.R k57 57 w' w.heap.size (fun _ => True) v3 x3_2) ∧ Aside0 (Below w.heap.size w w'))
        case atStart => exact ⟨(x3_1), ((-1)), (0), (by first | rfl | (simp; done) | (simp [*]; done)), (by first | rfl | (simp; done) | (simp [*]; done)), H', ⟨Nat.le_refl _⟩, ⟨by (with_reducible repeat (first | apply Kd.R_alloc | apply Kd.R_drewN | apply Kd.R_drew)); exact HO_3.out⟩, ⟨by repeat (first | (with_reducible first | exact HB.out | apply below_alloc | apply pw_below_drewN | apply below_drew1) | exact HB.out)⟩⟩
        case round =>
          clear H'
          try clear p2
          try clear c4
          try clear c4b0
          try clear p2
          obtain ⟨x3_2, x5_2, x6_2, rfl, rfl, HA, HK2, HO_3, HB⟩ := hrel
          cases gk with
          | zero => exact absurd HA.out (by simp [spec_runsOf.l1])
          | succ k2 =>
            have H := HA.out
            clear HA
            simp only [spec_runsOf.l1] at H
            by_cases c5 : x6_2 ≤ 16
            · rw [if_pos c5] at H
              have c5b0 : decide (x6_2 ≤ 16) = true := decide_eq_true c5
              clear c5
              have HC6 := Aside0.mk H
              clear H
              go_upto_region 9 with (fail)
              go_cut [7] (fun v7 wc => ∃ (kq : Nat) (x7_5 : Bool), v7 = .bool x7_5 ∧ Aside0 (spec_runsOf.j2 kq l0 x3_2 x4_1 x5_2 x6_2 x7_5 = some r) ∧ Aside0 (kq ≤ k2) ∧ Aside0 (Kd.R k57 57 wc w.heap.size (fun _ => True) u3 x3_2) ∧ Aside0 (Below w.heap.size w wc))
              case first =>
                have H := HC6.out
                clear HC6
                by_cases c7 : x6_2 < 16
                · rw [if_pos c7] at H
                  have c7b0 : decide (x6_2 < 16) = true := decide_eq_true c7
                  clear c7
                  (first | rw [c7b0] | (simp only [i64_w, i32_w]; rw [c7b0]) | skip)
                  obtain ⟨ji8, hji8⟩ : ∃ j_ : Int, (wrap64 ((wrap64 (x4_1 * 16)) + x6_2)) = j_ := ⟨_, rfl⟩
                  replace H : (if 0 ≤ (ji8) then (if (ji8) < (l0.length : Int) then (spec_runsOf.j2 k2 l0 x3_2 x4_1 x5_2 x6_2 (rdOf false l0 (ji8))) else (none)) else (none)) = some r := by first | (rw [hji8] at H; exact H) | (simp only [hji8] at H ⊢; exact H)
                  have hji8w : (IntKind.i64.wrap ((wrap64 (x4_1 * 16)) + x6_2)) = ji8 := (i64_w _).trans hji8
                  by_cases c9 : 0 ≤ (ji8)
                  · rw [if_pos c9] at H
                    have c9b0 : decide (0 ≤ (ji8)) = true := decide_eq_true c9
                    clear c9
                    by_cases c10 : (ji8) < (l0.length : Int)
                    · rw [if_pos c10] at H
                      have c10b0 : decide ((ji8) < (l0.length : Int)) = true := decide_eq_true c10
                      clear c10
                      have H' := Aside0.mk H
                      clear H
                      have p74004 : 0 ≤ ((ji8) : Int) := of_decide_eq_true (by first | (with_reducible assumption) | assumption)
                      have q74004 : (ji8) < (l0.length : Int) := of_decide_eq_true (by first | (with_reducible assumption) | assumption)
                      obtain ⟨ad74004, e74004, hx74004_0⟩ := Kd.at_bool HR0.out (ji8) p74004 q74004
                      cases e74004
                      replace hx74004_0 := (HB.out.cell (World.block_lt_of_cell? w _ hx74004_0)).trans hx74004_0
                      replace p74004 := eq_true p74004
                      replace q74004 := eq_true q74004
                      go_wp2
                      go_meet
                      case rel => exact ⟨_, (rdOf false l0 (ji8)), (by first | rfl | (simp; done) | (simp only [← hji8] <;> (first | rfl | simp)) | (simp [*]; done)), H', ⟨by have := HK1.out; have := HK2.out; first | omega | exact Nat.le_refl _⟩, ⟨by (with_reducible repeat (first | apply Kd.R_alloc | apply Kd.R_drewN | apply Kd.R_drew)); exact HO_3.out⟩, ⟨by repeat (first | (with_reducible first | exact HB.out | apply below_alloc | apply pw_below_drewN | apply below_drew1) | exact HB.out)⟩⟩
                    · rw [if_neg c10] at H
                      exact absurd H (by simp)
                  · rw [if_neg c9] at H
                    exact absurd H (by simp)
                · rw [if_neg c7] at H
                  have c7b0 : decide (x6_2 < 16) = false := decide_eq_false c7
                  clear c7
                  (first | rw [c7b0] | (simp only [i64_w, i32_w]; rw [c7b0]) | skip)
                  have H' := Aside0.mk H
                  clear H
                  go_wp2
                  go_meet
                  case rel => exact ⟨_, (false), (by first | rfl | (simp; done) | (simp [*]; done)), H', ⟨by have := HK1.out; have := HK2.out; first | omega | exact Nat.le_refl _⟩, ⟨by (with_reducible repeat (first | apply Kd.R_alloc | apply Kd.R_drewN | apply Kd.R_drew)); exact HO_3.out⟩, ⟨by repeat (first | (with_reducible first | exact HB.out | apply below_alloc | apply pw_below_drewN | apply below_drew1) | exact HB.out)⟩⟩
              case rest =>
                clear HC6
                try clear c1
                try clear p2
                try clear c4
                try clear c4b0
                try clear c5
                try clear c5b0
                try clear p6
                try clear c7
                try clear c7b0
                try clear p7
                try clear q7
                try clear hx7
                try clear c9
                try clear c9b0
                try clear c10
                try clear c10b0
                try clear hx74004_0
                try clear p2
                try clear p74004
                try clear q74004
                obtain ⟨kq, x7_5, rfl, HA, HJ5, HO_3, HB⟩ := hcut
                cases kq with
                | zero => exact absurd HA.out (by simp [spec_runsOf.j2])
                | succ kj5 =>
                  have H := HA.out
                  clear HA
                  simp only [spec_runsOf.j2] at H
                  have HC11 := Aside0.mk H
                  clear H
                  go_upto_region 10 with (fail)
                  go_cut [32] (fun v32 wc => ∃ (kq : Nat) (x32_10 : Bool), v32 = .bool x32_10 ∧ Aside0 (spec_runsOf.j3 kq l0 x3_2 x4_1 x5_2 x6_2 x7_5 x32_10 = some r) ∧ Aside0 (kq ≤ kj5) ∧ Aside0 (Kd.R k57 57 wc w.heap.size (fun _ => True) u3 x3_2) ∧ Aside0 (Below w.heap.size w wc))
                  case first =>
                    have H := HC11.out
                    clear HC11
                    by_cases c12 : x7_5 = true
                    · subst c12
                      have H1 : (spec_runsOf.j3 kj5 l0 x3_2 x4_1 x5_2 x6_2 true (decide (x5_2 < 0))) = some r := by rw [if_pos rfl] at H; exact H
                      clear H
                      have H := H1
                      clear H1
                      have H' := Aside0.mk H
                      clear H
                      go_wp2
                      go_meet
                      case rel => exact ⟨_, (decide (x5_2 < 0)), (by first | rfl | (simp; done) | (simp [*]; done)), H', ⟨by have := HK1.out; have := HK2.out; have := HJ5.out; first | omega | exact Nat.le_refl _⟩, ⟨by (with_reducible repeat (first | apply Kd.R_alloc | apply Kd.R_drewN | apply Kd.R_drew)); exact HO_3.out⟩, ⟨by repeat (first | (with_reducible first | exact HB.out | apply below_alloc | apply pw_below_drewN | apply below_drew1) | exact HB.out)⟩⟩
                    · replace c12 := Bool.eq_false_iff.mpr c12
                      subst c12
                      have H1 : (spec_runsOf.j3 kj5 l0 x3_2 x4_1 x5_2 x6_2 false false) = some r := by rw [if_neg (show ¬ (false = true) by decide)] at H; exact H
                      clear H
                      have H := H1
                      clear H1
                      have H' := Aside0.mk H
                      clear H
                      go_wp2
                      go_meet
                      case rel => exact ⟨_, (false), (by first | rfl | (simp; done) | (simp [*]; done)), H', ⟨by have := HK1.out; have := HK2.out; have := HJ5.out; first | omega | exact Nat.le_refl _⟩, ⟨by (with_reducible repeat (first | apply Kd.R_alloc | apply Kd.R_drewN | apply Kd.R_drew)); exact HO_3.out⟩, ⟨by repeat (first | (with_reducible first | exact HB.out | apply below_alloc | apply pw_below_drewN | apply below_drew1) | exact HB.out)⟩⟩
                  case rest =>
                    clear HC11
                    try clear c1
                    try clear p2
                    try clear c4
                    try clear c4b0
                    try clear c5
                    try clear c5b0
                    try clear p6
                    try clear c7
                    try clear c7b0
                    try clear p7
                    try clear q7
                    try clear hx7
                    try clear c9
                    try clear c9b0
                    try clear c10
                    try clear c10b0
                    try clear c12
                    try clear hx74004_0
                    try clear p2
                    try clear p6
                    try clear p7
                    try clear p74004
                    try clear q7
                    try clear q74004
                    obtain ⟨kq, x32_10, rfl, HA, HJ10, HO_3, HB⟩ := hcut
                    cases kq with
                    | zero => exact absurd HA.out (by simp [spec_runsOf.j3])
                    | succ kj10 =>
                      have H := HA.out
                      clear HA
                      simp only [spec_runsOf.j3] at H
                      by_cases c13 : x32_10 = true
                      · subst c13
                        have H1 : (if x7_5 = true then (spec_runsOf.l1 kj10 l0 x3_2 x4_1 x6_2 (wrap64 (x6_2 + 1))) else (if x6_2 ≥ 0 then (if x3_2.length < 5864062014805 then (spec_runsOf.l1 kj10 l0 (x3_2 ++ [(⟨x4_1, x6_2, x6_2⟩ : S57)]) x4_1 (-1) (wrap64 (x6_2 + 1))) else (none)) else (spec_runsOf.l1 kj10 l0 x3_2 x4_1 x6_2 (wrap64 (x6_2 + 1))))) = some r := by rw [if_pos rfl] at H; exact H
                        clear H
                        have H := H1
                        clear H1
                        by_cases c14 : x7_5 = true
                        · subst c14
                          have H1 : (spec_runsOf.l1 kj10 l0 x3_2 x4_1 x6_2 (wrap64 (x6_2 + 1))) = some r := by rw [if_pos rfl] at H; exact H
                          clear H
                          have H := H1
                          clear H1
                          have H' := Aside0.mk H
                          clear H
                          go_wp2
                          go_roundg kj10
                          case measure => have := HK1.out; have := HK2.out; have := HJ5.out; have := HJ10.out; omega
                          case rel => exact ⟨(x3_2), (x6_2), (wrap64 (x6_2 + 1)), (by first | rfl | (simp; done) | (simp [*]; done)), (by first | rfl | (simp; done) | (simp [*]; done)), H', ⟨by have := HK1.out; have := HK2.out; have := HJ5.out; have := HJ10.out; omega⟩, ⟨by (with_reducible repeat (first | apply Kd.R_alloc | apply Kd.R_drewN | apply Kd.R_drew)); exact HO_3.out⟩, ⟨by repeat (first | (with_reducible first | exact HB.out | apply below_alloc | apply pw_below_drewN | apply below_drew1) | exact HB.out)⟩⟩
                        · replace c14 := Bool.eq_false_iff.mpr c14
                          subst c14
                          have H1 : (if x6_2 ≥ 0 then (if x3_2.length < 5864062014805 then (spec_runsOf.l1 kj10 l0 (x3_2 ++ [(⟨x4_1, x6_2, x6_2⟩ : S57)]) x4_1 (-1) (wrap64 (x6_2 + 1))) else (none)) else (spec_runsOf.l1 kj10 l0 x3_2 x4_1 x6_2 (wrap64 (x6_2 + 1)))) = some r := by rw [if_neg (show ¬ (false = true) by decide)] at H; exact H
                          clear H
                          have H := H1
                          clear H1
                          by_cases c15 : x6_2 ≥ 0
                          · rw [if_pos c15] at H
                            have c15b0 : decide (0 ≤ x6_2) = true := decide_eq_true c15
                            clear c15
                            by_cases c16 : x3_2.length < 5864062014805
                            · rw [if_pos c16] at H
                              have LMc16 := Aside0.mk c16
                              clear c16
                              obtain ⟨y74005, hy74005⟩ : ∃ y_ : List (S57), y_ = (x3_2 ++ [(⟨x4_1, x6_2, x6_2⟩ : S57)]) := ⟨_, rfl⟩
                              replace H : (spec_runsOf.l1 kj10 l0 y74005 x4_1 (-1) (wrap64 (x6_2 + 1))) = some r := by first | (rw [hy74005]; with_reducible exact H) | (have H2_ := (Option.bind_some _ _).symm.trans H; rw [hy74005]; with_reducible exact H2_) | (have H2_ := (Option.bind_some _ _).symm.trans H; with_reducible exact H2_) | with_reducible exact H | (rw [hy74005]; exact H) | exact H
                              have Ny74005 := Aside0.mk hy74005
                              clear hy74005
                              have H' := Aside0.mk H
                              clear H
                              go_wp2_with (first | ((with_reducible refine gate_builtin (b := .append) (xs := #[.tmp 40, .tmp 45]) rfl ?_); at_builtin; refine Kd.R_append k57 (w0 := w) w.heap.size rfl (.tmp 40) (.tmp 45) 25 57 (.agg #[(.int .i64 0), (.int .i64 0), (.int .i64 0)]) 24 rfl Try.underlying25 info57 rfl (by decide) (by omega) u3 x3_2 (⟨x4_1, x6_2, x6_2⟩ : S57) [.int .i64 x4_1, .int .i64 x6_2, .int .i64 x6_2] (fun _ => True) (fun _ => False) rfl rfl ?aP (fun _ hk => hk.elim) ?aF ?aO ?aB ?aS ?aL ?_; (case aP => exact k57_mkM _ _ _ (⟨x4_1, x6_2, x6_2⟩ : S57)); (case aB => exact (by repeat (first | (with_reducible first | exact HB.out | apply below_alloc | apply pw_below_drewN | apply below_drew1) | exact HB.out))); (case aF => exact (fun _ _ => trivial)); (case aO => exact (by (with_reducible repeat (first | apply Kd.R_alloc | apply Kd.R_drewN | apply Kd.R_drew)); exact HO_3.out)); (case aS => exact (below_size (by repeat (first | (with_reducible first | exact HB.out | apply below_alloc | apply pw_below_drewN | apply below_drew1) | exact HB.out)))); (case aL => have := LMc16.out; omega); intro v74006 w17 ho hb hg hat; rw [← Ny74005.out] at ho; have n0_ := Aside0.mk (hb); have n1_ := Aside0.mk (ho); clear HB; clear HO_3; have HB := n0_; have HO74007 := n1_; clear n0_ n1_; clear ho hb hg hat))
                              go_roundg kj10
                              case measure => have := HK1.out; have := HK2.out; have := HJ5.out; have := HJ10.out; omega
                              case rel => exact ⟨(y74005), ((-1)), (wrap64 (x6_2 + 1)), (by first | rfl | (simp; done) | (simp [*]; done)), (by first | rfl | (simp; done) | (simp [*]; done)), H', ⟨by have := HK1.out; have := HK2.out; have := HJ5.out; have := HJ10.out; omega⟩, ⟨by (with_reducible repeat (first | apply Kd.R_alloc | apply Kd.R_drewN | apply Kd.R_drew)); exact HO74007.out⟩, ⟨by repeat (first | (with_reducible first | exact HB.out | apply below_alloc | apply pw_below_drewN | apply below_drew1) | exact HB.out)⟩⟩
                            · rw [if_neg c16] at H
                              exact absurd H (by simp)
                          · rw [if_neg c15] at H
                            have c15b0 : decide (0 ≤ x6_2) = false := decide_eq_false c15
                            clear c15
                            have H' := Aside0.mk H
                            clear H
                            go_wp2
                            go_roundg kj10
                            case measure => have := HK1.out; have := HK2.out; have := HJ5.out; have := HJ10.out; omega
                            case rel => exact ⟨(x3_2), (x6_2), (wrap64 (x6_2 + 1)), (by first | rfl | (simp; done) | (simp [*]; done)), (by first | rfl | (simp; done) | (simp [*]; done)), H', ⟨by have := HK1.out; have := HK2.out; have := HJ5.out; have := HJ10.out; omega⟩, ⟨by (with_reducible repeat (first | apply Kd.R_alloc | apply Kd.R_drewN | apply Kd.R_drew)); exact HO_3.out⟩, ⟨by repeat (first | (with_reducible first | exact HB.out | apply below_alloc | apply pw_below_drewN | apply below_drew1) | exact HB.out)⟩⟩
                      · replace c13 := Bool.eq_false_iff.mpr c13
                        subst c13
                        have H1 : (if x7_5 = true then (spec_runsOf.l1 kj10 l0 x3_2 x4_1 x5_2 (wrap64 (x6_2 + 1))) else (if x5_2 ≥ 0 then (if x3_2.length < 5864062014805 then (spec_runsOf.l1 kj10 l0 (x3_2 ++ [(⟨x4_1, x5_2, x6_2⟩ : S57)]) x4_1 (-1) (wrap64 (x6_2 + 1))) else (none)) else (spec_runsOf.l1 kj10 l0 x3_2 x4_1 x5_2 (wrap64 (x6_2 + 1))))) = some r := by rw [if_neg (show ¬ (false = true) by decide)] at H; exact H
                        clear H
                        have H := H1
                        clear H1
                        by_cases c18 : x7_5 = true
                        · subst c18
                          have H1 : (spec_runsOf.l1 kj10 l0 x3_2 x4_1 x5_2 (wrap64 (x6_2 + 1))) = some r := by rw [if_pos rfl] at H; exact H
                          clear H
                          have H := H1
                          clear H1
                          have H' := Aside0.mk H
                          clear H
                          go_wp2
                          go_roundg kj10
                          case measure => have := HK1.out; have := HK2.out; have := HJ5.out; have := HJ10.out; omega
                          case rel => exact ⟨(x3_2), (x5_2), (wrap64 (x6_2 + 1)), (by first | rfl | (simp; done) | (simp [*]; done)), (by first | rfl | (simp; done) | (simp [*]; done)), H', ⟨by have := HK1.out; have := HK2.out; have := HJ5.out; have := HJ10.out; omega⟩, ⟨by (with_reducible repeat (first | apply Kd.R_alloc | apply Kd.R_drewN | apply Kd.R_drew)); exact HO_3.out⟩, ⟨by repeat (first | (with_reducible first | exact HB.out | apply below_alloc | apply pw_below_drewN | apply below_drew1) | exact HB.out)⟩⟩
                        · replace c18 := Bool.eq_false_iff.mpr c18
                          subst c18
                          have H1 : (if x5_2 ≥ 0 then (if x3_2.length < 5864062014805 then (spec_runsOf.l1 kj10 l0 (x3_2 ++ [(⟨x4_1, x5_2, x6_2⟩ : S57)]) x4_1 (-1) (wrap64 (x6_2 + 1))) else (none)) else (spec_runsOf.l1 kj10 l0 x3_2 x4_1 x5_2 (wrap64 (x6_2 + 1)))) = some r := by rw [if_neg (show ¬ (false = true) by decide)] at H; exact H
                          clear H
                          have H := H1
                          clear H1
                          by_cases c19 : x5_2 ≥ 0
                          · rw [if_pos c19] at H
                            have c19b0 : decide (0 ≤ x5_2) = true := decide_eq_true c19
                            clear c19
                            by_cases c20 : x3_2.length < 5864062014805
                            · rw [if_pos c20] at H
                              have LMc20 := Aside0.mk c20
                              clear c20
                              obtain ⟨y74008, hy74008⟩ : ∃ y_ : List (S57), y_ = (x3_2 ++ [(⟨x4_1, x5_2, x6_2⟩ : S57)]) := ⟨_, rfl⟩
                              replace H : (spec_runsOf.l1 kj10 l0 y74008 x4_1 (-1) (wrap64 (x6_2 + 1))) = some r := by first | (rw [hy74008]; with_reducible exact H) | (have H2_ := (Option.bind_some _ _).symm.trans H; rw [hy74008]; with_reducible exact H2_) | (have H2_ := (Option.bind_some _ _).symm.trans H; with_reducible exact H2_) | with_reducible exact H | (rw [hy74008]; exact H) | exact H
                              have Ny74008 := Aside0.mk hy74008
                              clear hy74008
                              have H' := Aside0.mk H
                              clear H
                              go_wp2_with (first | ((with_reducible refine gate_builtin (b := .append) (xs := #[.tmp 40, .tmp 45]) rfl ?_); at_builtin; refine Kd.R_append k57 (w0 := w) w.heap.size rfl (.tmp 40) (.tmp 45) 25 57 (.agg #[(.int .i64 0), (.int .i64 0), (.int .i64 0)]) 24 rfl Try.underlying25 info57 rfl (by decide) (by omega) u3 x3_2 (⟨x4_1, x5_2, x6_2⟩ : S57) [.int .i64 x4_1, .int .i64 x5_2, .int .i64 x6_2] (fun _ => True) (fun _ => False) rfl rfl ?aP (fun _ hk => hk.elim) ?aF ?aO ?aB ?aS ?aL ?_; (case aP => exact k57_mkM _ _ _ (⟨x4_1, x5_2, x6_2⟩ : S57)); (case aB => exact (by repeat (first | (with_reducible first | exact HB.out | apply below_alloc | apply pw_below_drewN | apply below_drew1) | exact HB.out))); (case aF => exact (fun _ _ => trivial)); (case aO => exact (by (with_reducible repeat (first | apply Kd.R_alloc | apply Kd.R_drewN | apply Kd.R_drew)); exact HO_3.out)); (case aS => exact (below_size (by repeat (first | (with_reducible first | exact HB.out | apply below_alloc | apply pw_below_drewN | apply below_drew1) | exact HB.out)))); (case aL => have := LMc20.out; omega); intro v74009 w21 ho hb hg hat; rw [← Ny74008.out] at ho; have n0_ := Aside0.mk (hb); have n1_ := Aside0.mk (ho); clear HB; clear HO_3; have HB := n0_; have HO74010 := n1_; clear n0_ n1_; clear ho hb hg hat))
                              go_roundg kj10
                              case measure => have := HK1.out; have := HK2.out; have := HJ5.out; have := HJ10.out; omega
                              case rel => exact ⟨(y74008), ((-1)), (wrap64 (x6_2 + 1)), (by first | rfl | (simp; done) | (simp [*]; done)), (by first | rfl | (simp; done) | (simp [*]; done)), H', ⟨by have := HK1.out; have := HK2.out; have := HJ5.out; have := HJ10.out; omega⟩, ⟨by (with_reducible repeat (first | apply Kd.R_alloc | apply Kd.R_drewN | apply Kd.R_drew)); exact HO74010.out⟩, ⟨by repeat (first | (with_reducible first | exact HB.out | apply below_alloc | apply pw_below_drewN | apply below_drew1) | exact HB.out)⟩⟩
                            · rw [if_neg c20] at H
                              exact absurd H (by simp)
                          · rw [if_neg c19] at H
                            have c19b0 : decide (0 ≤ x5_2) = false := decide_eq_false c19
                            clear c19
                            have H' := Aside0.mk H
                            clear H
                            go_wp2
                            go_roundg kj10
                            case measure => have := HK1.out; have := HK2.out; have := HJ5.out; have := HJ10.out; omega
                            case rel => exact ⟨(x3_2), (x5_2), (wrap64 (x6_2 + 1)), (by first | rfl | (simp; done) | (simp [*]; done)), (by first | rfl | (simp; done) | (simp [*]; done)), H', ⟨by have := HK1.out; have := HK2.out; have := HJ5.out; have := HJ10.out; omega⟩, ⟨by (with_reducible repeat (first | apply Kd.R_alloc | apply Kd.R_drewN | apply Kd.R_drew)); exact HO_3.out⟩, ⟨by repeat (first | (with_reducible first | exact HB.out | apply below_alloc | apply pw_below_drewN | apply below_drew1) | exact HB.out)⟩⟩
            · rw [if_neg c5] at H
              have c5b0 : decide (x6_2 ≤ 16) = false := decide_eq_false c5
              clear c5
              have H' := Aside0.mk H
              clear H
              go_wp2
              go_roundg k2
              case measure => have := HK1.out; have := HK2.out; omega
              case rel => exact ⟨(x3_2), (wrap64 (x4_1 + 1)), (by first | rfl | (simp; done) | (simp [*]; done)), H', ⟨by have := HK1.out; have := HK2.out; omega⟩, ⟨by (with_reducible repeat (first | apply Kd.R_alloc | apply Kd.R_drewN | apply Kd.R_drew)); exact HO_3.out⟩, ⟨by repeat (first | (with_reducible first | exact HB.out | apply below_alloc | apply pw_below_drewN | apply below_drew1) | exact HB.out)⟩⟩
      · rw [if_neg c4] at H
        have c4b0 : decide (x4_1 < 16) = false := decide_eq_false c4
        clear c4
        obtain rfl := Option.some.inj H
        go_wp2
        go_ret
        exact ⟨_, by first | rfl | (simp [errW_none, errW_some] <;> rfl) | (simp [*, errW_none, errW_some] <;> rfl), by (with_reducible repeat (first | apply Kd.R_alloc | apply Kd.R_drewN | apply Kd.R_drew)); exact HO_3.out, by repeat (first | (with_reducible first | exact HB.out | apply below_alloc | apply pw_below_drewN | apply below_drew1) | exact HB.out)⟩

end Go.Proofs.Ytfgeickfheogoaa.Q

/- Grids and their runs, as the reference has them: lists of 256 bools. -/
namespace Go.Proofs.Ytfgeickfheogoaa.Pure
open Go.RowKit Go.Proofs.Ytfgeickfheogoaa.Q Go.Proofs.YtfgeickfheogoaaW.PrintWords Go.Proofs.YtfgeickfheogoaaW.PrintLast Go.Proofs.YtfgeickfheogoaaW.PrintMore
set_option linter.unusedVariables false
set_option linter.unusedSimpArgs false

/-- A grid as a list. -/
def tab (g : Nat → Bool) : List Bool := (List.range 256).map g
theorem tab_length (g : Nat → Bool) : (tab g).length = 256 := by simp [tab]
theorem tab_get (g : Nat → Bool) (i : Nat) (h : i < 256) : rdOf false (tab g) (i : Int) = g i := by
  simp [rdOf, tab, List.getD_eq_getElem?_getD, h]
theorem tab_set (g : Nat → Bool) (i : Nat) (b : Bool) : (tab g).set i b = tab (fun p => if p = i then b else g p) := by
  apply List.ext_getElem
  · simp [tab]
  · intro j h1 h2
    rw [List.getElem_set]
    simp only [tab, List.getElem_map, List.getElem_range]
    by_cases e : i = j
    · rw [if_pos e, if_pos e.symm]
    · rw [if_neg e, if_neg (fun h => e h.symm)]
theorem tab_congr {g g' : Nat → Bool} (h : ∀ p, p < 256 → g p = g' p) : tab g = tab g' := by
  unfold tab
  apply List.map_congr_left
  intro p hp
  exact h p (by simpa using hp)
theorem tab_false : List.replicate 256 false = tab (fun _ => false) := by
  refine List.ext_getElem (by rw [List.length_replicate, tab_length]) (fun j h1 h2 => ?_)
  rw [List.getElem_replicate]
  simp only [tab, List.getElem_map]
/-! the reference's grid -/
theorem spec_gridOf_ev (l : List Run) (hl : l.length ≤ 1000000000) (hok : ∀ r ∈ l, 0 ≤ r.f0 ∧ r.f0 < 16 ∧ 0 ≤ r.f1 ∧ r.f2 ≤ 16) : Ev (fun k => spec_gridOf.f k l) (tab (gridF l)) := by
  have key := ev_up2 l.length (fun k i (s : List Bool) => spec_gridOf.l0 k l s (i : Int)) (fun i s => s = tab (gridF (l.take i))) (fun _ _ => tab (gridF l))
    (by
      intro i s hi hs
      right
      have ho := hok l[i] (List.getElem_mem hi)
      refine ⟨tab (gridF (l.take (i + 1))), fun r hr => ?_, rfl, rfl⟩
      have inner : ∀ d x : Nat, l[i].f1 ≤ (x : Int) → ((x : Int) + d = l[i].f2 ∨ (d = 0 ∧ l[i].f2 ≤ x ∧ (x : Int) = l[i].f1)) →
          Ev (fun k => spec_gridOf.l1 k l (tab (fun p => gridF (l.take i) p || runTo l[i] x p)) (i : Int) (x : Int)) r := by
        intro d
        induction d with
        | zero =>
          intro x hx hd
          have he : tab (fun p => gridF (l.take i) p || runTo l[i] x p) = tab (gridF (l.take (i + 1))) := by
            apply tab_congr
            intro p _
            rw [gridF_succ l i hi]
            congr 1
            unfold runTo runIn
            by_cases c : l[i].f1 ≤ ((p % 16 : Nat) : Int)
            · congr 1
              rw [decide_eq_decide]
              omega
            · rw [decide_eq_false c, Bool.and_false, Bool.false_and, Bool.false_and]
          refine Ev.step (fun k => ?_) hr
          simp only [spec_gridOf.l1]
          rw [if_pos (by omega), if_pos (by omega), rdRun l i hi, if_neg (by omega), w64n i (by omega), he]
        | succ d ih =>
          intro x hx hd
          have hx16 : x < 16 := by omega
          obtain ⟨Y, hY⟩ := Int.eq_ofNat_of_zero_le ho.1
          have hs' : (tab (fun p => gridF (l.take i) p || runTo l[i] x p)).set (Y * 16 + x) true = tab (fun p => gridF (l.take i) p || runTo l[i] (x + 1) p) := by
            rw [tab_set]
            exact tab_congr (fun p _ => runTo_step l[i] Y x hY hx16 hx _ p)
          have hn := ih (x + 1) (by omega) (by omega)
          refine Ev.step (fun k => ?_) hn
          simp only [spec_gridOf.l1]
          have e1 : wrap64 (wrap64 (l[i].f0 * 16) + (x : Int)) = ((Y * 16 + x : Nat) : Int) := by
            rw [hY, w64 (x := (Y : Int) * 16) (by omega) (by omega), w64 (x := (Y : Int) * 16 + (x : Int)) (by omega) (by omega)]; omega
          rw [if_pos (by omega), if_pos (by omega), rdRun l i hi, if_pos (by omega), e1, if_pos (by omega), tab_length, if_pos (by omega), Int.toNat_natCast, hs', w64n x (by omega)]
      obtain ⟨F, hF⟩ := Int.eq_ofNat_of_zero_le ho.2.2.1
      have h0 : Ev (fun k => spec_gridOf.l1 k l (tab (fun p => gridF (l.take i) p || runTo l[i] F p)) (i : Int) (F : Int)) r := by
        by_cases c : l[i].f1 ≤ l[i].f2
        · exact inner (l[i].f2 - l[i].f1).toNat F (by omega) (.inl (by omega))
        · exact inner 0 F (by omega) (.inr ⟨rfl, by omega, by omega⟩)
      have he : tab (fun p => gridF (l.take i) p || runTo l[i] F p) = s := by
        rw [hs]
        apply tab_congr
        intro p _
        have : runTo l[i] F p = false := by
          unfold runTo
          rw [hF]
          by_cases c : ((F : Nat) : Int) ≤ ((p % 16 : Nat) : Int)
          · rw [decide_eq_false (show ¬ p % 16 < F by omega), Bool.and_false]
          · rw [decide_eq_false c, Bool.and_false, Bool.false_and]
        rw [this, Bool.or_false]
      rw [he] at h0
      refine Ev.step (fun k => ?_) h0
      simp only [spec_gridOf.l0]
      rw [if_pos (by omega), if_pos (by omega), rdRun l i hi, hF])
    (by
      intro s hs
      refine Ev.step (f := fun _ => some s) (fun k => ?_) (ev_val (Ev.now s) (by rw [hs, List.take_length]))
      simp only [spec_gridOf.l0]
      rw [if_neg (by omega)])
    l.length 0 (tab (gridF (l.take 0))) (by omega) rfl
  unfold spec_gridOf.f
  refine Ev.congr (fun k => ?_) key
  rw [if_pos (by omega), tab_false]
  rfl
/-! the reference's runs -/
def rowRest (g : Nat → Bool) (y x : Nat) (from_ : Int) : List Run :=
  if from_ < 0 then scanRow g y x else ⟨(y : Int), from_, (endAt g y (16 - x) x : Nat)⟩ :: scanRow g y (endAt g y (16 - x) x + 1)
theorem spec_runsOf_ev (g : Nat → Bool) : Ev (fun k => spec_runsOf.f k (tab g)) (runsL g) := by
  have key := ev_up2 16 (fun k y (s : List Run) => spec_runsOf.l0 k (tab g) s (y : Int)) (fun y s => s = runsTo g y ∧ s.length ≤ 17 * y) (fun _ _ => runsL g)
    (by
      intro y s hy hs
      right
      have inner : ∀ r, (∀ acc : List Run, acc = runsTo g (y + 1) → acc.length ≤ 17 * (y + 1) → Ev (fun k => spec_runsOf.l0 k (tab g) acc ((y + 1 : Nat) : Int)) r) →
          Ev (fun k => spec_runsOf.l1 k (tab g) s (y : Int) (-1) 0) r := by
        intro r hnext
        have h := ev_up2 17 (fun k x (q : List Run × Int) => spec_runsOf.l1 k (tab g) q.1 (y : Int) q.2 (x : Int))
          (fun x q => q.1 ++ rowRest g y x q.2 = runsTo g (y + 1) ∧ q.1.length ≤ 17 * y + x ∧ (q.2 = -1 ∨ (0 ≤ q.2 ∧ q.2 < x ∧ x ≤ 16))) (fun _ _ => r)
          (by
            intro x q hx hq
            obtain ⟨acc, fr⟩ := q
            obtain ⟨h1, h2, h3⟩ := hq
            simp only at h1 h2 h3
            right
            have j3 : ∀ (b : Bool), (x < 16 → b = g (y * 16 + x)) → (x = 16 → b = false) → ∃ s' : List Run × Int,
                (∀ r, Ev (fun k => spec_runsOf.l1 k (tab g) s'.1 (y : Int) s'.2 ((x + 1 : Nat) : Int)) r → Ev (fun k => spec_runsOf.j2 k (tab g) acc (y : Int) fr (x : Int) b) r) ∧
                (s'.1 ++ rowRest g y (x + 1) s'.2 = runsTo g (y + 1) ∧ s'.1.length ≤ 17 * y + (x + 1) ∧ (s'.2 = -1 ∨ (0 ≤ s'.2 ∧ s'.2 < ((x + 1 : Nat) : Int) ∧ x + 1 ≤ 16))) := by
              intro b hb hb16
              rcases h3 with h3 | h3
              · subst h3
                cases b with
                | true =>
                  have hx16 : x < 16 := by
                    by_cases c : x = 16
                    · have := hb16 c; cases this
                    · omega
                  refine ⟨(acc, (x : Int)), fun r hr => ?_, ?_, by simp only; omega, .inr (by simp only; omega)⟩
                  · refine Ev.step (f := fun k => spec_runsOf.j3 k (tab g) acc (y : Int) (-1) (x : Int) true true) (fun k => ?_) (Ev.step (fun k => ?_) hr)
                    · simp only [spec_runsOf.j2]; simp
                    · simp only [spec_runsOf.j3]
                      rw [if_pos trivial, if_pos trivial, w64n x (by omega)]
                  · have hv := (hb hx16).symm
                    rw [← h1]
                    show acc ++ rowRest g y (x + 1) (x : Int) = acc ++ rowRest g y x (-1)
                    unfold rowRest
                    rw [if_neg (by omega), if_pos (by omega), scan_true g y x hx16 hv, endAt_step g y x hx16 hv]
                | false =>
                  refine ⟨(acc, -1), fun r hr => ?_, ?_, by simp only; omega, .inl rfl⟩
                  · refine Ev.step (f := fun k => spec_runsOf.j3 k (tab g) acc (y : Int) (-1) (x : Int) false false) (fun k => ?_) (Ev.step (fun k => ?_) hr)
                    · simp only [spec_runsOf.j2]; simp
                    · simp only [spec_runsOf.j3]
                      rw [if_neg (by simp), if_neg (by simp), if_neg (by omega), w64n x (by omega)]
                  · rw [← h1]
                    show acc ++ rowRest g y (x + 1) (-1) = acc ++ rowRest g y x (-1)
                    unfold rowRest
                    rw [if_pos (by omega), if_pos (by omega)]
                    by_cases c : x < 16
                    · rw [scan_false g y x c (hb c).symm]
                    · rw [scan_end g y x (by omega), scan_end g y (x + 1) (by omega)]
              · cases b with
                | true =>
                  have hx16 : x < 16 := by
                    by_cases c : x = 16
                    · have := hb16 c; cases this
                    · omega
                  refine ⟨(acc, fr), fun r hr => ?_, ?_, by simp only; omega, .inr (by simp only; omega)⟩
                  · refine Ev.step (f := fun k => spec_runsOf.j3 k (tab g) acc (y : Int) fr (x : Int) true false) (fun k => ?_) (Ev.step (fun k => ?_) hr)
                    · simp only [spec_runsOf.j2]
                      rw [if_pos trivial, decide_eq_false (show ¬ fr < 0 by omega)]
                    · simp only [spec_runsOf.j3]
                      rw [if_neg (by simp), if_pos trivial, w64n x (by omega)]
                  · have hv := (hb hx16).symm
                    rw [← h1]
                    show acc ++ rowRest g y (x + 1) fr = acc ++ rowRest g y x fr
                    unfold rowRest
                    rw [if_neg (by omega), if_neg (by omega), endAt_step g y x hx16 hv]
                | false =>
                  refine ⟨(acc ++ [⟨(y : Int), fr, (x : Int)⟩], -1), fun r hr => ?_, ?_, by simp; omega, .inl rfl⟩
                  · refine Ev.step (f := fun k => spec_runsOf.j3 k (tab g) acc (y : Int) fr (x : Int) false false) (fun k => ?_) (Ev.step (fun k => ?_) hr)
                    · simp only [spec_runsOf.j2]; simp
                    · simp only [spec_runsOf.j3]
                      rw [if_neg (by simp), if_neg (by simp), if_pos (by omega), if_pos (by omega), w64n x (by omega)]
                  · rw [← h1]
                    show acc ++ [⟨(y : Int), fr, (x : Int)⟩] ++ rowRest g y (x + 1) (-1) = acc ++ rowRest g y x fr
                    unfold rowRest
                    have hst : endAt g y (16 - x) x = x := endAt_stop g y x (by
                      by_cases c : x < 16
                      · right; exact (hb c).symm
                      · left; omega)
                    rw [if_pos (by omega), if_neg (by omega), hst]
                    simp
            by_cases hx16 : x < 16
            · obtain ⟨s', e1, e2⟩ := j3 (g (y * 16 + x)) (fun _ => rfl) (fun c => by omega)
              refine ⟨s', fun r hr => ?_, e2, rfl⟩
              refine Ev.step (fun k => ?_) (e1 r hr)
              simp only [spec_runsOf.l1]
              have e3 : wrap64 (wrap64 ((y : Int) * 16) + (x : Int)) = ((y * 16 + x : Nat) : Int) := by
                rw [w64 (x := (y : Int) * 16) (by omega) (by omega), w64 (x := (y : Int) * 16 + (x : Int)) (by omega) (by omega)]; omega
              rw [if_pos (by omega), if_pos (by omega), e3, if_pos (by omega), tab_length, if_pos (by omega), tab_get g _ (by omega)]
            · obtain ⟨s', e1, e2⟩ := j3 false (fun c => by omega) (fun _ => rfl)
              refine ⟨s', fun r hr => ?_, e2, rfl⟩
              refine Ev.step (fun k => ?_) (e1 r hr)
              simp only [spec_runsOf.l1]
              rw [if_pos (by omega), if_neg (by omega)])
          (by
            intro q hq
            obtain ⟨acc, fr⟩ := q
            obtain ⟨h1, h2, h3⟩ := hq
            simp only at h1 h2 h3
            have hf : fr = -1 := by omega
            subst hf
            have he : acc = runsTo g (y + 1) := by
              rw [← h1]
              unfold rowRest
              rw [if_pos (by omega), scan_end g y 17 (by omega), List.append_nil]
            refine Ev.step (fun k => ?_) (hnext acc he (by omega))
            simp only [spec_runsOf.l1]
            rw [if_neg (by omega), w64n y (by omega)])
          17 0 (s, -1) (by omega) ⟨by
            unfold rowRest
            rw [if_pos (by omega), hs.1, ← runsTo_succ], by have := hs.2; simp only; omega, .inl rfl⟩
        exact h
      have hlen : (runsTo g (y + 1)).length ≤ 17 * (y + 1) := by
        rw [runsTo_succ, List.length_append]
        have hsc : ∀ d x, 17 ≤ x + d → (scanRow g y x).length ≤ 17 - x := by
          intro d
          induction d with
          | zero => intro x hx; rw [scan_end g y x (by omega)]; simp
          | succ d ih =>
            intro x hx
            by_cases h16 : x < 16
            · cases hv : g (y * 16 + x) with
              | true =>
                have := endAt_ge g y (16 - x) x
                rw [scan_true g y x h16 hv, List.length_cons]
                have := ih (endAt g y (16 - x) x + 1) (by omega)
                omega
              | false =>
                rw [scan_false g y x h16 hv]
                have := ih (x + 1) (by omega)
                omega
            · rw [scan_end g y x (by omega)]; simp
        have h1 := hsc 17 0 (by omega)
        have h2 := hs.2
        rw [hs.1] at h2
        omega
      refine ⟨runsTo g (y + 1), fun r hr => ?_, ⟨rfl, hlen⟩, rfl⟩
      refine Ev.step (fun k => ?_) (inner r (fun acc ha _ => by rw [ha]; exact hr))
      simp only [spec_runsOf.l0]
      rw [if_pos (by omega)])
    (by
      intro s hs
      refine Ev.step (f := fun _ => some s) (fun k => ?_) (ev_val (Ev.now s) hs.1)
      simp only [spec_runsOf.l0]
      rw [if_neg (by omega)])
    16 0 [] (by omega) ⟨by simp [runsTo], by simp⟩
  exact key
end Go.Proofs.Ytfgeickfheogoaa.Pure

/- Neighbours of a grid's pixels, by their numbers; a loop that fills a grid. -/
namespace Go.Proofs.Ytfgeickfheogoaa.Pure
open Go.RowKit Go.Proofs.Ytfgeickfheogoaa.Q Go.Proofs.YtfgeickfheogoaaW.PrintWords Go.Proofs.YtfgeickfheogoaaW.PrintLast Go.Proofs.YtfgeickfheogoaaW.PrintMore
set_option linter.unusedVariables false
set_option linter.unusedSimpArgs false

theorem gso_at (so : Nat → Nat → Bool) (p : Nat) (h : p < 256) : gso so 256 p = so (p % 16) (p / 16) := by
  unfold gso; rw [decide_eq_true h, Bool.true_and]
def rdT (g : Nat → Bool) (i : Int) : Bool := rdOf false (tab g) i
theorem rdT_nat (g : Nat → Bool) (i : Nat) (h : i < 256) : rdT g (i : Int) = g i := tab_get g i h
theorem hasP_no (g : Nat → Bool) (x y : Int) (h : x < 0 ∨ 16 ≤ x ∨ y < 0 ∨ 16 ≤ y) : hasP g x y = false := by
  rw [← Bool.not_eq_true, hasP_iff]; omega
theorem hasP_at (g : Nat → Bool) (x y : Int) (r : Nat) (hr : r < 256) (hx : x = ((r % 16 : Nat) : Int)) (hy : y = ((r / 16 : Nat) : Int)) : hasP g x y = g r := by
  rw [hx, hy, hasP_nat g r hr]
theorem has_left (g : Nat → Bool) (p : Nat) (hp : p < 256) : hasP g (((p % 16 : Nat) : Int) - 1) ((p / 16 : Nat) : Int) = (decide (((p % 16 : Nat) : Int) > 0) && rdT g ((p : Int) - 1)) := by
  by_cases c : ((p % 16 : Nat) : Int) > 0
  · rw [decide_eq_true c, Bool.true_and, hasP_at g _ _ (p - 1) (by omega) (by omega) (by omega), show (p : Int) - 1 = ((p - 1 : Nat) : Int) by omega, rdT_nat g _ (by omega)]
  · rw [decide_eq_false c, Bool.false_and, hasP_no g _ _ (by omega)]
theorem has_right (g : Nat → Bool) (p : Nat) (hp : p < 256) : hasP g (((p % 16 : Nat) : Int) + 1) ((p / 16 : Nat) : Int) = (decide (((p % 16 : Nat) : Int) < 15) && rdT g ((p : Int) + 1)) := by
  by_cases c : ((p % 16 : Nat) : Int) < 15
  · rw [decide_eq_true c, Bool.true_and, hasP_at g _ _ (p + 1) (by omega) (by omega) (by omega), show (p : Int) + 1 = ((p + 1 : Nat) : Int) by omega, rdT_nat g _ (by omega)]
  · rw [decide_eq_false c, Bool.false_and, hasP_no g _ _ (by omega)]
theorem has_up (g : Nat → Bool) (p : Nat) (hp : p < 256) : hasP g ((p % 16 : Nat) : Int) (((p / 16 : Nat) : Int) - 1) = (decide (((p / 16 : Nat) : Int) > 0) && rdT g ((p : Int) - 16)) := by
  by_cases c : ((p / 16 : Nat) : Int) > 0
  · rw [decide_eq_true c, Bool.true_and, hasP_at g _ _ (p - 16) (by omega) (by omega) (by omega), show (p : Int) - 16 = ((p - 16 : Nat) : Int) by omega, rdT_nat g _ (by omega)]
  · rw [decide_eq_false c, Bool.false_and, hasP_no g _ _ (by omega)]
theorem has_down (g : Nat → Bool) (p : Nat) (hp : p < 256) : hasP g ((p % 16 : Nat) : Int) (((p / 16 : Nat) : Int) + 1) = (decide (((p / 16 : Nat) : Int) < 15) && rdT g ((p : Int) + 16)) := by
  by_cases c : ((p / 16 : Nat) : Int) < 15
  · rw [decide_eq_true c, Bool.true_and, hasP_at g _ _ (p + 16) (by omega) (by omega) (by omega), show (p : Int) + 16 = ((p + 16 : Nat) : Int) by omega, rdT_nat g _ (by omega)]
  · rw [decide_eq_false c, Bool.false_and, hasP_no g _ _ (by omega)]
def innerT (g : Nat → Bool) (p : Nat) : Bool :=
  decide (((p % 16 : Nat) : Int) > 0) && (decide (((p % 16 : Nat) : Int) < 15) && (decide (((p / 16 : Nat) : Int) > 0) && (decide (((p / 16 : Nat) : Int) < 15) && (rdT g ((p : Int) - 1) && (rdT g ((p : Int) + 1) && (rdT g ((p : Int) - 16) && rdT g ((p : Int) + 16)))))))
theorem edge_is (g : Nat → Bool) (p : Nat) (hp : p < 256) : (g p && !(innerT g p)) = gso (edgeP g) 256 p := by
  rw [gso_at _ _ hp]
  unfold edgeP nbAll innerT
  rw [has_left g p hp, has_right g p hp, has_up g p hp, has_down g p hp, show p / 16 * 16 + p % 16 = p by omega]
  generalize decide (((p % 16 : Nat) : Int) > 0) = a1
  generalize decide (((p % 16 : Nat) : Int) < 15) = a2
  generalize decide (((p / 16 : Nat) : Int) > 0) = a3
  generalize decide (((p / 16 : Nat) : Int) < 15) = a4
  generalize rdT g ((p : Int) - 1) = a5
  generalize rdT g ((p : Int) + 1) = a6
  generalize rdT g ((p : Int) - 16) = a7
  generalize rdT g ((p : Int) + 16) = a8
  congr 2
  ac_rfl
end Go.Proofs.Ytfgeickfheogoaa.Pure

/- Rows of bools that hold a grid: what is made, read and written. -/
namespace Go.Proofs.Ytfgeickfheogoaa.Q
open Go.RowKit Go.Proofs.YtfgeickfheogoaaW.PrintWords Go.Proofs.YtfgeickfheogoaaW.PrintLast Go.Proofs.YtfgeickfheogoaaW.PrintMore
attribute [local go_sem] max2_int min2_int max_two min_two max_three min_three max_four min_four
set_option linter.unusedVariables false
set_option linter.unusedSimpArgs false
open Go.Proofs.Ytfgeickfheogoaa.Pure

theorem tabR_cell {W : World} {base g cap : Nat} {ok : Nat → Prop} {f : Nat → Bool} (h : Kd.bool.R 4 W base ok (.slice (some ⟨g, 0, none⟩) 256 cap) (tab f)) (i : Nat) (hi : i < 256) : W.cell? ⟨g, i, none⟩ = some (.bool (f i)) ∧ W.frozen? ⟨g, i, none⟩ = false := by
  have hl := tab_length f
  have h' : Kd.bool.R 4 W base ok (.slice (some ⟨g, 0, none⟩) (tab f).length cap) (tab f) := by rw [hl]; exact h
  have := Kd.R_cell false h' (i : Int) (by omega) (by omega)
  rw [Int.toNat_natCast, tab_get f i hi] at this
  exact this
theorem tabR_put {W : World} {base g cap : Nat} {ok : Nat → Prop} {f : Nat → Bool} (h : Kd.bool.R 4 W base ok (.slice (some ⟨g, 0, none⟩) 256 cap) (tab f)) (i : Nat) (b : Bool) : Kd.bool.R 4 (W.setCell ⟨g, i, none⟩ (.bool b)) base ok (.slice (some ⟨g, 0, none⟩) 256 cap) (tab fun p => if p = i then b else f p) := by
  have hl := tab_length f
  have h' : Kd.bool.R 4 W base ok (.slice (some ⟨g, 0, none⟩) (tab f).length cap) (tab f) := by rw [hl]; exact h
  have := (Kd.R_put h' (i : Int) b).1
  rw [Int.toNat_natCast, tab_set, hl] at this
  exact this
theorem tabR_congr {W : World} {base : Nat} {ok : Nat → Prop} {v : Value} {f f' : Nat → Bool} (h : Kd.bool.R 4 W base ok v (tab f)) (he : ∀ p, p < 256 → f p = f' p) : Kd.bool.R 4 W base ok v (tab f') := by
  rw [← tab_congr he]; exact h
theorem add_pos (ad : Addr) (m : Nat) (h : 0 < m) : ad.add m = ⟨ad.block, ad.off + m, none⟩ := by
  have := add_field ad 0 m h
  rw [Nat.zero_add] at this
  rw [this]
  unfold Addr.add
  simp
/-- what has been filled so far -/
def upTo (f init : Nat → Bool) (n : Nat) (p : Nat) : Bool := if p < n then f p else init p
theorem upTo_step (f init : Nat → Bool) (n p : Nat) : (if p = n then f n else upTo f init n p) = upTo f init (n + 1) p := by
  unfold upTo
  by_cases e : p = n
  · subst e; rw [if_pos rfl, if_pos (by omega)]
  · rw [if_neg e]
    by_cases c : p < n
    · rw [if_pos c, if_pos (by omega)]
    · rw [if_neg c, if_neg (by omega)]
theorem upTo_all (f init : Nat → Bool) (p : Nat) (h : p < 256) : upTo f init 256 p = f p := by unfold upTo; rw [if_pos h]
theorem tab_of (l : List Bool) (h : l.length = 256) : l = tab (fun p => l.getD p false) := by
  refine List.ext_getElem (by rw [tab_length]; exact h) (fun j h1 h2 => ?_)
  simp [tab, List.getD_eq_getElem?_getD, List.getElem?_eq_getElem h1]
theorem tabC_at {W : World} {A : Option Addr} {f : Nat → Bool} (h : Kd.bool.C W A 256 (tab f)) : ∃ ad, A = some ad ∧ ∀ i : Int, 0 ≤ i → i < 256 → W.cell? (ad.add i.toNat) = some (.bool (rdT f i)) := by
  obtain ⟨ad, rfl, _⟩ := Kd.at_bool h 0 (by omega) (by omega)
  refine ⟨ad, rfl, fun i h0 h1 => ?_⟩
  obtain ⟨ad', e, hc⟩ := Kd.at_bool h i h0 (by omega)
  cases e
  exact hc
end Go.Proofs.Ytfgeickfheogoaa.Q

/- spec.edge: the pixels of a grid that have a neighbour that is not in it, as the reference has them. -/
namespace Go.Proofs.Ytfgeickfheogoaa.Q
open Go.RowKit Go.Proofs.YtfgeickfheogoaaW.PrintWords Go.Proofs.YtfgeickfheogoaaW.PrintLast Go.Proofs.YtfgeickfheogoaaW.PrintMore
attribute [local go_sem] max2_int min2_int max_two min_two max_three min_three max_four min_four
set_option linter.unusedVariables false
set_option linter.unusedSimpArgs false
open Go.Proofs.Ytfgeickfheogoaa.Pure

def spec_edge.f (l0 : List Bool) : Option (List Bool) := if l0.length = 256 then some (tab (gso (edgeP (fun p => l0.getD p false)) 256)) else none

set_option maxHeartbeats 2000000 in
set_option maxRecDepth 100000 in
theorem spec_edge_calls (A0 : Option Addr) (c0 : Nat) (g : Nat → Bool) (w : World) (hr0 : Kd.bool.C w A0 256 (tab g)) (hc0 : 256 ≤ c0) :
    Calls Try.prog 75 #[.slice A0 256 c0] w fun e w' => ∃ v0_ : Value, e = .returned (v0_) ∧ Kd.bool.R 4 w' w.heap.size (fun _ => True) v0_ (tab (fun p => g p && !(innerT g p))) ∧ Below w.heap.size w w' := by
  obtain ⟨ad, rfl, HRD⟩ := tabC_at hr0
  have HR := Aside0.mk hr0
  have HRC := Aside0.mk (fun (W : World) (hb : Below w.heap.size w W) (i : Int) (h0 : 0 ≤ i) (h1 : i < 256) => show W.cell? (ad.add i.toNat) = some (.bool (rdT g i)) from by
    obtain ⟨ad', e, h⟩ := tabC_at (Kd.C_below HR.out hb)
    cases e
    exact h i h0 h1)
  clear hr0 HRD
  go_enter Try.func75, Try.ntmps75
  go_wp2_with (first | ((with_reducible refine gate_dst (N := 11) rfl ?_); refine Kd.R_make Kd.bool w.heap.size 4 rfl (N := 11) rfl 62 _ _ rfl 256 rfl rfl Try.underlying62 (.bool false) 1 info4 rfl (by decide) (by omega) false (ok := fun _ => True) (okp := fun _ => True) rfl (fun _ hk => hk) trivial (by omega) (by omega) (Below.refl _ _) (Nat.le_refl _) ?_; intro v1 w1 ho1 hb1 hg1 hn1; clear hg1 hn1; have HO1 := Aside0.mk ho1; have HB1 := Aside0.mk hb1; clear ho1 hb1))
  have hO : Kd.bool.R 4 w1 w.heap.size (fun _ => True) v1 (tab (fun _ => false)) := by
    have h := HO1.out
    rw [show (256 : Int).toNat = 256 from rfl, tab_false] at h
    exact h
  clear HO1
  obtain ⟨B, cap, rfl, hBb, hBl, _⟩ := Kd.R_form hO (by rw [tab_length]; omega)
  rw [tab_length] at hO ⊢
  go_loopw [5, 6, 7, 8] (fun v5 v6 v7 v8 W => ∃ p : Nat, v5 = .int .i64 p ∧ p ≤ 256 ∧ Aside0 (Kd.bool.R 4 W w.heap.size (fun _ => True) (.slice (some ⟨B, 0, none⟩) 256 cap) (tab (upTo (fun p => g p && !(innerT g p)) (fun _ => false) p))) ∧ Aside0 (Below w.heap.size w W)) (fun v5 _ _ _ _ => 256 - (intOf v5).toNat)
  case atStart => exact ⟨0, rfl, by omega, ⟨tabR_congr hO (fun p _ => rfl)⟩, HB1⟩
  case round =>
    obtain ⟨p, rfl, hp, HO, HB⟩ := hrel
    obtain ⟨wo, rfl⟩ : ∃ wo : World, wo = wr := ⟨_, rfl⟩
    by_cases hlt : p < 256
    · have d0 : decide ((p : Int) < 256) = true := by simp; omega
      have HX : ((p : Int) % 16) = ((p % 16 : Nat) : Int) := by omega
      have HY : ((p : Int) / 16) = ((p / 16 : Nat) : Int) := by omega
      have hc0 := HRC.out wo HB.out (p : Int) (by omega) (by omega)
      rw [rdT_nat g p hlt, Int.toNat_natCast] at hc0
      have ht := tabR_cell HO.out p hlt
      have hf := ht.2
      replace ht := ht.1
      have HP := Aside0.mk (tabR_put HO.out p)
      have HL := Aside0.mk hBb
      have HV := Aside0.mk (show innerT g p = (decide ((p : Int) % 16 > 0) && (decide ((p : Int) % 16 < 15) && (decide ((p : Int) / 16 > 0) && (decide ((p : Int) / 16 < 15) && (rdT g ((p : Int) - 1) && (rdT g ((p : Int) + 1) && (rdT g ((p : Int) - 16) && rdT g ((p : Int) + 16)))))))) by rw [HX, HY]; rfl)
      clear HX HY
      cases hgp : g p with
      | false =>
        rw [hgp] at hc0
        cases k0 : decide ((p : Int) % 16 > 0) with
        | false =>
          have m0 : decide (0 < (p : Int) % 16) = false := k0
          have HE := Aside0.mk (show (g p && !(innerT g p)) = false by rw [hgp, HV.out, k0]; simp)
          clear HV k0
          go_wp2
          go_roundw
          case rel => exact ⟨p + 1, by go_num, by omega, ⟨tabR_congr (HP.out _) (fun q _ => by rw [← upTo_step]; by_cases e : q = p; (rw [if_pos e, if_pos e]; exact HE.out.symm); (rw [if_neg e, if_neg e]))⟩, ⟨below_set HB.out (by omega)⟩⟩
          case measure => simp [intOf]; omega
        | true =>
        have m0 : decide (0 < (p : Int) % 16) = true := k0
        have c0 := of_decide_eq_true k0
        cases k1 : decide ((p : Int) % 16 < 15) with
        | false =>
          have m1 : decide ((p : Int) % 16 < 15) = false := k1
          have HE := Aside0.mk (show (g p && !(innerT g p)) = false by rw [hgp, HV.out, k0, k1]; simp)
          clear HV k0 k1
          go_wp2
          go_roundw
          case rel => exact ⟨p + 1, by go_num, by omega, ⟨tabR_congr (HP.out _) (fun q _ => by rw [← upTo_step]; by_cases e : q = p; (rw [if_pos e, if_pos e]; exact HE.out.symm); (rw [if_neg e, if_neg e]))⟩, ⟨below_set HB.out (by omega)⟩⟩
          case measure => simp [intOf]; omega
        | true =>
        have m1 : decide ((p : Int) % 16 < 15) = true := k1
        have c1 := of_decide_eq_true k1
        cases k2 : decide ((p : Int) / 16 > 0) with
        | false =>
          have m2 : decide (0 < (p : Int) / 16) = false := k2
          have HE := Aside0.mk (show (g p && !(innerT g p)) = false by rw [hgp, HV.out, k0, k1, k2]; simp)
          clear HV k0 k1 k2
          go_wp2
          go_roundw
          case rel => exact ⟨p + 1, by go_num, by omega, ⟨tabR_congr (HP.out _) (fun q _ => by rw [← upTo_step]; by_cases e : q = p; (rw [if_pos e, if_pos e]; exact HE.out.symm); (rw [if_neg e, if_neg e]))⟩, ⟨below_set HB.out (by omega)⟩⟩
          case measure => simp [intOf]; omega
        | true =>
        have m2 : decide (0 < (p : Int) / 16) = true := k2
        have c2 := of_decide_eq_true k2
        cases k3 : decide ((p : Int) / 16 < 15) with
        | false =>
          have m3 : decide ((p : Int) / 16 < 15) = false := k3
          have HE := Aside0.mk (show (g p && !(innerT g p)) = false by rw [hgp, HV.out, k0, k1, k2, k3]; simp)
          clear HV k0 k1 k2 k3
          go_wp2
          go_roundw
          case rel => exact ⟨p + 1, by go_num, by omega, ⟨tabR_congr (HP.out _) (fun q _ => by rw [← upTo_step]; by_cases e : q = p; (rw [if_pos e, if_pos e]; exact HE.out.symm); (rw [if_neg e, if_neg e]))⟩, ⟨below_set HB.out (by omega)⟩⟩
          case measure => simp [intOf]; omega
        | true =>
        have m3 : decide ((p : Int) / 16 < 15) = true := k3
        have c3 := of_decide_eq_true k3
        have g4 := HRC.out wo HB.out ((p : Int) - 1) (by omega) (by omega)
        rw [show ((p : Int) - 1).toNat = p - 1 by omega] at g4
        have n40 : 0 ≤ (p : Int) - 1 := by omega
        have n41 : (p : Int) - 1 < 256 := by omega
        cases b4 : rdT g ((p : Int) - 1) with
        | false =>
          rw [b4] at g4
          have HE := Aside0.mk (show (g p && !(innerT g p)) = false by rw [hgp, HV.out, k0, k1, k2, k3, b4]; simp)
          clear HV k0 k1 k2 k3
          go_wp2
          go_roundw
          case rel => exact ⟨p + 1, by go_num, by omega, ⟨tabR_congr (HP.out _) (fun q _ => by rw [← upTo_step]; by_cases e : q = p; (rw [if_pos e, if_pos e]; exact HE.out.symm); (rw [if_neg e, if_neg e]))⟩, ⟨below_set HB.out (by omega)⟩⟩
          case measure => simp [intOf]; omega
        | true =>
        rw [b4] at g4
        have g5 := HRC.out wo HB.out ((p : Int) + 1) (by omega) (by omega)
        rw [show ((p : Int) + 1).toNat = p + 1 by omega, add_pos ad _ (by omega)] at g5
        have n50 : 0 ≤ (p : Int) + 1 := by omega
        have n51 : (p : Int) + 1 < 256 := by omega
        cases b5 : rdT g ((p : Int) + 1) with
        | false =>
          rw [b5] at g5
          have HE := Aside0.mk (show (g p && !(innerT g p)) = false by rw [hgp, HV.out, k0, k1, k2, k3, b4, b5]; simp)
          clear HV k0 k1 k2 k3
          go_wp2
          go_roundw
          case rel => exact ⟨p + 1, by go_num, by omega, ⟨tabR_congr (HP.out _) (fun q _ => by rw [← upTo_step]; by_cases e : q = p; (rw [if_pos e, if_pos e]; exact HE.out.symm); (rw [if_neg e, if_neg e]))⟩, ⟨below_set HB.out (by omega)⟩⟩
          case measure => simp [intOf]; omega
        | true =>
        rw [b5] at g5
        have g6 := HRC.out wo HB.out ((p : Int) - 16) (by omega) (by omega)
        rw [show ((p : Int) - 16).toNat = p - 16 by omega] at g6
        have n60 : 0 ≤ (p : Int) - 16 := by omega
        have n61 : (p : Int) - 16 < 256 := by omega
        cases b6 : rdT g ((p : Int) - 16) with
        | false =>
          rw [b6] at g6
          have HE := Aside0.mk (show (g p && !(innerT g p)) = false by rw [hgp, HV.out, k0, k1, k2, k3, b4, b5, b6]; simp)
          clear HV k0 k1 k2 k3
          go_wp2
          go_roundw
          case rel => exact ⟨p + 1, by go_num, by omega, ⟨tabR_congr (HP.out _) (fun q _ => by rw [← upTo_step]; by_cases e : q = p; (rw [if_pos e, if_pos e]; exact HE.out.symm); (rw [if_neg e, if_neg e]))⟩, ⟨below_set HB.out (by omega)⟩⟩
          case measure => simp [intOf]; omega
        | true =>
        rw [b6] at g6
        have g7 := HRC.out wo HB.out ((p : Int) + 16) (by omega) (by omega)
        rw [show ((p : Int) + 16).toNat = p + 16 by omega, add_pos ad _ (by omega)] at g7
        have n70 : 0 ≤ (p : Int) + 16 := by omega
        have n71 : (p : Int) + 16 < 256 := by omega
        cases b7 : rdT g ((p : Int) + 16) with
        | false =>
          rw [b7] at g7
          have HE := Aside0.mk (show (g p && !(innerT g p)) = false by rw [hgp, HV.out, k0, k1, k2, k3, b4, b5, b6, b7]; simp)
          clear HV k0 k1 k2 k3
          go_wp2
          go_roundw
          case rel => exact ⟨p + 1, by go_num, by omega, ⟨tabR_congr (HP.out _) (fun q _ => by rw [← upTo_step]; by_cases e : q = p; (rw [if_pos e, if_pos e]; exact HE.out.symm); (rw [if_neg e, if_neg e]))⟩, ⟨below_set HB.out (by omega)⟩⟩
          case measure => simp [intOf]; omega
        | true =>
        rw [b7] at g7
        have HE := Aside0.mk (show (g p && !(innerT g p)) = false by rw [HV.out, k0, k1, k2, k3, b4, b5, b6, b7]; simp)
        clear HV k0 k1 k2 k3
        go_wp2
        go_roundw
        case rel => exact ⟨p + 1, by go_num, by omega, ⟨tabR_congr (HP.out _) (fun q _ => by rw [← upTo_step]; by_cases e : q = p; (rw [if_pos e, if_pos e]; exact HE.out.symm); (rw [if_neg e, if_neg e]))⟩, ⟨below_set HB.out (by omega)⟩⟩
        case measure => simp [intOf]; omega
      | true =>
        rw [hgp] at hc0
        cases k0 : decide ((p : Int) % 16 > 0) with
        | false =>
          have m0 : decide (0 < (p : Int) % 16) = false := k0
          have HE := Aside0.mk (show (g p && !(innerT g p)) = true by rw [hgp, HV.out, k0]; simp)
          clear HV k0
          go_wp2
          go_roundw
          case rel => exact ⟨p + 1, by go_num, by omega, ⟨tabR_congr (HP.out _) (fun q _ => by rw [← upTo_step]; by_cases e : q = p; (rw [if_pos e, if_pos e]; exact HE.out.symm); (rw [if_neg e, if_neg e]))⟩, ⟨below_set HB.out (by omega)⟩⟩
          case measure => simp [intOf]; omega
        | true =>
        have m0 : decide (0 < (p : Int) % 16) = true := k0
        have c0 := of_decide_eq_true k0
        cases k1 : decide ((p : Int) % 16 < 15) with
        | false =>
          have m1 : decide ((p : Int) % 16 < 15) = false := k1
          have HE := Aside0.mk (show (g p && !(innerT g p)) = true by rw [hgp, HV.out, k0, k1]; simp)
          clear HV k0 k1
          go_wp2
          go_roundw
          case rel => exact ⟨p + 1, by go_num, by omega, ⟨tabR_congr (HP.out _) (fun q _ => by rw [← upTo_step]; by_cases e : q = p; (rw [if_pos e, if_pos e]; exact HE.out.symm); (rw [if_neg e, if_neg e]))⟩, ⟨below_set HB.out (by omega)⟩⟩
          case measure => simp [intOf]; omega
        | true =>
        have m1 : decide ((p : Int) % 16 < 15) = true := k1
        have c1 := of_decide_eq_true k1
        cases k2 : decide ((p : Int) / 16 > 0) with
        | false =>
          have m2 : decide (0 < (p : Int) / 16) = false := k2
          have HE := Aside0.mk (show (g p && !(innerT g p)) = true by rw [hgp, HV.out, k0, k1, k2]; simp)
          clear HV k0 k1 k2
          go_wp2
          go_roundw
          case rel => exact ⟨p + 1, by go_num, by omega, ⟨tabR_congr (HP.out _) (fun q _ => by rw [← upTo_step]; by_cases e : q = p; (rw [if_pos e, if_pos e]; exact HE.out.symm); (rw [if_neg e, if_neg e]))⟩, ⟨below_set HB.out (by omega)⟩⟩
          case measure => simp [intOf]; omega
        | true =>
        have m2 : decide (0 < (p : Int) / 16) = true := k2
        have c2 := of_decide_eq_true k2
        cases k3 : decide ((p : Int) / 16 < 15) with
        | false =>
          have m3 : decide ((p : Int) / 16 < 15) = false := k3
          have HE := Aside0.mk (show (g p && !(innerT g p)) = true by rw [hgp, HV.out, k0, k1, k2, k3]; simp)
          clear HV k0 k1 k2 k3
          go_wp2
          go_roundw
          case rel => exact ⟨p + 1, by go_num, by omega, ⟨tabR_congr (HP.out _) (fun q _ => by rw [← upTo_step]; by_cases e : q = p; (rw [if_pos e, if_pos e]; exact HE.out.symm); (rw [if_neg e, if_neg e]))⟩, ⟨below_set HB.out (by omega)⟩⟩
          case measure => simp [intOf]; omega
        | true =>
        have m3 : decide ((p : Int) / 16 < 15) = true := k3
        have c3 := of_decide_eq_true k3
        have g4 := HRC.out wo HB.out ((p : Int) - 1) (by omega) (by omega)
        rw [show ((p : Int) - 1).toNat = p - 1 by omega] at g4
        have n40 : 0 ≤ (p : Int) - 1 := by omega
        have n41 : (p : Int) - 1 < 256 := by omega
        cases b4 : rdT g ((p : Int) - 1) with
        | false =>
          rw [b4] at g4
          have HE := Aside0.mk (show (g p && !(innerT g p)) = true by rw [hgp, HV.out, k0, k1, k2, k3, b4]; simp)
          clear HV k0 k1 k2 k3
          go_wp2
          go_roundw
          case rel => exact ⟨p + 1, by go_num, by omega, ⟨tabR_congr (HP.out _) (fun q _ => by rw [← upTo_step]; by_cases e : q = p; (rw [if_pos e, if_pos e]; exact HE.out.symm); (rw [if_neg e, if_neg e]))⟩, ⟨below_set HB.out (by omega)⟩⟩
          case measure => simp [intOf]; omega
        | true =>
        rw [b4] at g4
        have g5 := HRC.out wo HB.out ((p : Int) + 1) (by omega) (by omega)
        rw [show ((p : Int) + 1).toNat = p + 1 by omega, add_pos ad _ (by omega)] at g5
        have n50 : 0 ≤ (p : Int) + 1 := by omega
        have n51 : (p : Int) + 1 < 256 := by omega
        cases b5 : rdT g ((p : Int) + 1) with
        | false =>
          rw [b5] at g5
          have HE := Aside0.mk (show (g p && !(innerT g p)) = true by rw [hgp, HV.out, k0, k1, k2, k3, b4, b5]; simp)
          clear HV k0 k1 k2 k3
          go_wp2
          go_roundw
          case rel => exact ⟨p + 1, by go_num, by omega, ⟨tabR_congr (HP.out _) (fun q _ => by rw [← upTo_step]; by_cases e : q = p; (rw [if_pos e, if_pos e]; exact HE.out.symm); (rw [if_neg e, if_neg e]))⟩, ⟨below_set HB.out (by omega)⟩⟩
          case measure => simp [intOf]; omega
        | true =>
        rw [b5] at g5
        have g6 := HRC.out wo HB.out ((p : Int) - 16) (by omega) (by omega)
        rw [show ((p : Int) - 16).toNat = p - 16 by omega] at g6
        have n60 : 0 ≤ (p : Int) - 16 := by omega
        have n61 : (p : Int) - 16 < 256 := by omega
        cases b6 : rdT g ((p : Int) - 16) with
        | false =>
          rw [b6] at g6
          have HE := Aside0.mk (show (g p && !(innerT g p)) = true by rw [hgp, HV.out, k0, k1, k2, k3, b4, b5, b6]; simp)
          clear HV k0 k1 k2 k3
          go_wp2
          go_roundw
          case rel => exact ⟨p + 1, by go_num, by omega, ⟨tabR_congr (HP.out _) (fun q _ => by rw [← upTo_step]; by_cases e : q = p; (rw [if_pos e, if_pos e]; exact HE.out.symm); (rw [if_neg e, if_neg e]))⟩, ⟨below_set HB.out (by omega)⟩⟩
          case measure => simp [intOf]; omega
        | true =>
        rw [b6] at g6
        have g7 := HRC.out wo HB.out ((p : Int) + 16) (by omega) (by omega)
        rw [show ((p : Int) + 16).toNat = p + 16 by omega, add_pos ad _ (by omega)] at g7
        have n70 : 0 ≤ (p : Int) + 16 := by omega
        have n71 : (p : Int) + 16 < 256 := by omega
        cases b7 : rdT g ((p : Int) + 16) with
        | false =>
          rw [b7] at g7
          have HE := Aside0.mk (show (g p && !(innerT g p)) = true by rw [hgp, HV.out, k0, k1, k2, k3, b4, b5, b6, b7]; simp)
          clear HV k0 k1 k2 k3
          go_wp2
          go_roundw
          case rel => exact ⟨p + 1, by go_num, by omega, ⟨tabR_congr (HP.out _) (fun q _ => by rw [← upTo_step]; by_cases e : q = p; (rw [if_pos e, if_pos e]; exact HE.out.symm); (rw [if_neg e, if_neg e]))⟩, ⟨below_set HB.out (by omega)⟩⟩
          case measure => simp [intOf]; omega
        | true =>
        rw [b7] at g7
        have HE := Aside0.mk (show (g p && !(innerT g p)) = false by rw [HV.out, k0, k1, k2, k3, b4, b5, b6, b7]; simp)
        clear HV k0 k1 k2 k3
        go_wp2
        go_roundw
        case rel => exact ⟨p + 1, by go_num, by omega, ⟨tabR_congr (HP.out _) (fun q _ => by rw [← upTo_step]; by_cases e : q = p; (rw [if_pos e, if_pos e]; exact HE.out.symm); (rw [if_neg e, if_neg e]))⟩, ⟨below_set HB.out (by omega)⟩⟩
        case measure => simp [intOf]; omega
    · have d0 : decide ((p : Int) < 256) = false := by simp; omega
      have hp256 : p = 256 := by omega
      subst hp256
      go_wp2
      go_ret
      exact ⟨_, rfl, tabR_congr HO.out (fun q hq => upTo_all _ _ q hq), HB.out⟩
theorem spec_edge.calls (A0 : Option Addr) (c0 : Nat) (l0 : List Bool) (r : List Bool) (w : World) (hr0 : Kd.bool.C w A0 l0.length l0) (hc0 : l0.length ≤ c0) (h : spec_edge.f l0 = some r) :
    Calls Try.prog 75 #[.slice A0 l0.length c0] w fun e w' => ∃ v0_ : Value, e = .returned (v0_) ∧ Kd.bool.R 4 w' w.heap.size (fun _ => True) v0_ r ∧ Below w.heap.size w w' := by
  unfold spec_edge.f at h
  by_cases hl : l0.length = 256
  · rw [if_pos hl] at h
    obtain rfl := Option.some.inj h
    rw [hl] at hr0 hc0 ⊢
    rw [tab_of l0 hl] at hr0
    have e := tab_congr (fun p hp => (edge_is (fun p => l0.getD p false) p hp).symm)
    rw [e]
    exact spec_edge_calls A0 c0 _ w hr0 hc0
  · rw [if_neg hl] at h; cases h
end Go.Proofs.Ytfgeickfheogoaa.Q

namespace Go.Proofs.Ytfgeickfheogoaa.Q
open Go.RowKit Go.Proofs.YtfgeickfheogoaaW.PrintWords Go.Proofs.YtfgeickfheogoaaW.PrintLast Go.Proofs.YtfgeickfheogoaaW.PrintMore
attribute [local go_sem] max2_int min2_int max_two min_two max_three min_three max_four min_four
set_option linter.unusedVariables false
set_option linter.unusedSimpArgs false
/-! ### spec_EdgeOf: function 39 -/
def spec_EdgeOf.f (k : Nat) (l0 : List (S57)) : Option ((List (S57))) := (spec_validRuns.f k l0).bind fun t40001 => (if t40001 = true then ((spec_gridOf.f k l0).bind fun t40002 => ((spec_edge.f t40002).bind fun t40005 => ((spec_runsOf.f k t40005).bind fun t40008 => (some t40008)))) else (some ([] : List (S57))))
theorem spec_EdgeOf.mono : ∀ a0 k, LeO (spec_EdgeOf.f k a0) (spec_EdgeOf.f (k + 1) a0) := by
  intro a0 k
  unfold spec_EdgeOf.f
  repeat' first
      | (with_reducible exact spec_gridOf.mono _ _)
      | (with_reducible exact spec_runsOf.mono _ _)
      | (with_reducible exact spec_validRuns.mono _ _)
      | (with_reducible exact LeO.refl _)
      | (with_reducible exact LeO.none _)
      | (with_reducible refine LeO.ite ?_ ?_)
      | (with_reducible refine LeO.bind ?_ (fun _ => ?_))
      | exact spec_gridOf.mono _ _
      | exact spec_runsOf.mono _ _
      | exact spec_validRuns.mono _ _
      | exact LeO.none _
      | refine LeO.ite ?_ ?_
      | refine LeO.bind ?_ (fun _ => ?_)
set_option maxHeartbeats 8000000 in
set_option maxRecDepth 100000 in
theorem spec_EdgeOf.calls (k : Nat) (A0 : Option Addr) (c0 : Nat) (l0 : List (S57)) (r : List (S57)) (w : World) (hr0 : Kd.C k57 w A0 l0.length l0) (hc0 : l0.length ≤ c0) (h : spec_EdgeOf.f k l0 = some r) :
    Calls Try.prog 39 #[.slice A0 l0.length c0] w fun e w' => ∃ v0_ : Value, e = .returned (v0_) ∧ Kd.R k57 57 w' w.heap.size (fun _ => True) v0_ r ∧ Below w.heap.size w w' := by
  have HR0 := Aside0.mk hr0
  have HC0 := Aside0.mk hc0
  clear hr0 hc0
  have HB := Aside0.mk (Below.refl w.heap.size w)
  have H : ((spec_validRuns.f k l0).bind fun t40001 => (if t40001 = true then ((spec_gridOf.f k l0).bind fun t40002 => ((spec_edge.f t40002).bind fun t40005 => ((spec_runsOf.f k t40005).bind fun t40008 => (some t40008)))) else (some ([] : List (S57))))) = some r := h
  clear h
  replace H := Option.bind_eq_some_iff.mp H
  obtain ⟨t40001, A20, H⟩ := H
  replace H : (if t40001 = true then ((spec_gridOf.f k l0).bind fun t40002 => ((spec_edge.f t40002).bind fun t40005 => ((spec_runsOf.f k t40005).bind fun t40008 => (some t40008)))) else (some ([] : List (S57)))) = some r := H
  have A2 := Aside0.mk A20
  clear A20
  by_cases c3 : t40001 = true
  · subst c3
    have H1 : ((spec_gridOf.f k l0).bind fun t40002 => ((spec_edge.f t40002).bind fun t40005 => ((spec_runsOf.f k t40005).bind fun t40008 => (some t40008)))) = some r := by rw [if_pos rfl] at H; exact H
    clear H
    have H := H1
    clear H1
    replace H := Option.bind_eq_some_iff.mp H
    obtain ⟨t40002, A40, H⟩ := H
    replace H : ((spec_edge.f t40002).bind fun t40005 => ((spec_runsOf.f k t40005).bind fun t40008 => (some t40008))) = some r := H
    have A4 := Aside0.mk A40
    clear A40
    replace H := Option.bind_eq_some_iff.mp H
    obtain ⟨t40005, A50, H⟩ := H
    replace H : ((spec_runsOf.f k t40005).bind fun t40008 => (some t40008)) = some r := H
    have A5 := Aside0.mk A50
    clear A50
    replace H := Option.bind_eq_some_iff.mp H
    obtain ⟨t40008, A60, H⟩ := H
    replace H : (some t40008) = some r := H
    have A6 := Aside0.mk A60
    clear A60
    obtain rfl := Option.some.inj H
    go_enter Try.func39, Try.ntmps39
    go_wp2_with (first | ((with_reducible refine gate_callee (f := 53) rfl ?_); refine goesL_ (some 4) rfl rfl Try.func53 (by kernel_rfl) rfl #[.slice A0 l0.length c0] rfl (by (try simp only [List.map_toArray, List.map_cons, List.map_nil]); first | done | rfl | (simp only [List.length_drop, List.length_take]; rfl)) ?_; (with_reducible refine (spec_validRuns.calls k _ _ l0 true _ ?side1 ?side2 A2.out).mono ?_); (case side1 => repeat (first | exact HR0.out | (with_reducible refine Kd.C_alloc ?_ _) | (with_reducible refine Kd.C_drewN ?_ _) | (with_reducible refine Kd.C_drew ?_))); (case side2 => exact HC0.out); rintro e w7 ⟨rfl, hb⟩; refine ⟨_, rfl, ?_⟩; have n0_ := Aside0.mk (below_step (by repeat (first | (with_reducible first | exact HB.out | apply below_alloc | apply pw_below_drewN | apply below_drew1) | exact HB.out)) hb); clear HB; have HB := n0_; clear n0_; (try clear hb); (try clear hb2); (try clear hk); (try clear hi)) | ((with_reducible refine gate_callee (f := 58) rfl ?_); refine goesL_ (some 7) rfl rfl Try.func58 (by kernel_rfl) rfl #[.slice A0 l0.length c0] rfl (by (try simp only [List.map_toArray, List.map_cons, List.map_nil]); first | done | rfl | (simp only [List.length_drop, List.length_take]; rfl)) ?_; (with_reducible refine (spec_gridOf.calls k _ _ l0 t40002 _ ?side1 ?side2 A4.out).mono ?_); (case side1 => repeat (first | exact (Kd.C_below HR0.out HB.out) | (with_reducible refine Kd.C_alloc ?_ _) | (with_reducible refine Kd.C_drewN ?_ _) | (with_reducible refine Kd.C_drew ?_))); (case side2 => exact HC0.out); rintro e w8 ⟨v40003, rfl, ho0, hb⟩; refine ⟨_, rfl, ?_⟩; have n0_ := Aside0.mk (Kd.R_lower ho0 (below_size (by repeat (first | (with_reducible first | exact HB.out | apply below_alloc | apply pw_below_drewN | apply below_drew1) | exact HB.out)))); have n1_ := Aside0.mk (below_step (by repeat (first | (with_reducible first | exact HB.out | apply below_alloc | apply pw_below_drewN | apply below_drew1) | exact HB.out)) hb); clear HB; have HO40004 := n0_; have HB := n1_; clear n0_ n1_; (try clear hb); (try clear hb2); (try clear hk); (try clear hi); (try clear ho0); obtain ⟨Ao9, co9, eo9⟩ := Kd.R_slice HO40004.out; subst eo9) | ((with_reducible refine gate_callee (f := 75) rfl ?_); refine goesL_ (some 8) rfl rfl Try.func75 (by kernel_rfl) rfl #[.slice Ao9 t40002.length co9] rfl (by (try simp only [List.map_toArray, List.map_cons, List.map_nil]); first | done | rfl | (simp only [List.length_drop, List.length_take]; rfl)) ?_; (with_reducible refine (spec_edge.calls _ _ t40002 t40005 _ ?side1 ?side2 A5.out).mono ?_); (case side1 => repeat (first | exact (Kd.R_reads' HO40004.out).2.2 | (with_reducible refine Kd.C_alloc ?_ _) | (with_reducible refine Kd.C_drewN ?_ _) | (with_reducible refine Kd.C_drew ?_))); (case side2 => exact (Kd.R_reads' HO40004.out).2.1); rintro e w10 ⟨v40006, rfl, ho0, hb⟩; refine ⟨_, rfl, ?_⟩; have n0_ := Aside0.mk (Kd.R_elder' (by (with_reducible repeat (first | apply Kd.R_alloc | apply Kd.R_drewN | apply Kd.R_drew)); exact HO40004.out) (Kd.R_base ho0) hb); have n1_ := Aside0.mk (Kd.R_lower (Kd.R_new' ho0 (Kd.R_lt (by (with_reducible repeat (first | apply Kd.R_alloc | apply Kd.R_drewN | apply Kd.R_drew)); exact HO40004.out))) (below_size (by repeat (first | (with_reducible first | exact HB.out | apply below_alloc | apply pw_below_drewN | apply below_drew1) | exact HB.out)))); have n2_ := Aside0.mk (below_step (by repeat (first | (with_reducible first | exact HB.out | apply below_alloc | apply pw_below_drewN | apply below_drew1) | exact HB.out)) hb); clear HO40004; clear HB; have HO40004 := n0_; have HO40007 := n1_; have HB := n2_; clear n0_ n1_ n2_; (try clear hb); (try clear hb2); (try clear hk); (try clear hi); (try clear ho0); obtain ⟨Ao11, co11, eo11⟩ := Kd.R_slice HO40007.out; subst eo11) | ((with_reducible refine gate_callee (f := 73) rfl ?_); refine goesL_ (some 9) rfl rfl Try.func73 (by kernel_rfl) rfl #[.slice Ao11 t40005.length co11] rfl (by (try simp only [List.map_toArray, List.map_cons, List.map_nil]); first | done | rfl | (simp only [List.length_drop, List.length_take]; rfl)) ?_; (with_reducible refine (spec_runsOf.calls k _ _ t40005 t40008 _ ?side1 ?side2 A6.out).mono ?_); (case side1 => repeat (first | exact (Kd.R_reads' HO40007.out).2.2 | (with_reducible refine Kd.C_alloc ?_ _) | (with_reducible refine Kd.C_drewN ?_ _) | (with_reducible refine Kd.C_drew ?_))); (case side2 => exact (Kd.R_reads' HO40007.out).2.1); rintro e w12 ⟨v40009, rfl, ho0, hb⟩; refine ⟨_, rfl, ?_⟩; have n0_ := Aside0.mk (Kd.R_below (by (with_reducible repeat (first | apply Kd.R_alloc | apply Kd.R_drewN | apply Kd.R_drew)); exact HO40004.out) hb); have n1_ := Aside0.mk (Kd.R_below (by (with_reducible repeat (first | apply Kd.R_alloc | apply Kd.R_drewN | apply Kd.R_drew)); exact HO40007.out) hb); have n2_ := Aside0.mk (Kd.R_lower ho0 (below_size (by repeat (first | (with_reducible first | exact HB.out | apply below_alloc | apply pw_below_drewN | apply below_drew1) | exact HB.out)))); have n3_ := Aside0.mk (below_step (by repeat (first | (with_reducible first | exact HB.out | apply below_alloc | apply pw_below_drewN | apply below_drew1) | exact HB.out)) hb); clear HO40004; clear HO40007; clear HB; have HO40004 := n0_; have HO40007 := n1_; have HO40010 := n2_; have HB := n3_; clear n0_ n1_ n2_ n3_; (try clear hb); (try clear hb2); (try clear hk); (try clear hi); (try clear ho0)))
    go_ret
    exact ⟨_, by first | rfl | (simp [errW_none, errW_some] <;> rfl) | (simp [*, errW_none, errW_some] <;> rfl), by (with_reducible repeat (first | apply Kd.R_alloc | apply Kd.R_drewN | apply Kd.R_drew)); exact HO40010.out, by repeat (first | (with_reducible first | exact HB.out | apply below_alloc | apply pw_below_drewN | apply below_drew1) | exact HB.out)⟩
  · replace c3 := Bool.eq_false_iff.mpr c3
    subst c3
    have H1 : (some ([] : List (S57))) = some r := by rw [if_neg (show ¬ (false = true) by decide)] at H; exact H
    clear H
    have H := H1
    clear H1
    obtain rfl := Option.some.inj H
    go_enter Try.func39, Try.ntmps39
    go_wp2_with (first | ((with_reducible refine gate_callee (f := 53) rfl ?_); refine goesL_ (some 4) rfl rfl Try.func53 (by kernel_rfl) rfl #[.slice A0 l0.length c0] rfl (by (try simp only [List.map_toArray, List.map_cons, List.map_nil]); first | done | rfl | (simp only [List.length_drop, List.length_take]; rfl)) ?_; (with_reducible refine (spec_validRuns.calls k _ _ l0 false _ ?side1 ?side2 A2.out).mono ?_); (case side1 => repeat (first | exact HR0.out | (with_reducible refine Kd.C_alloc ?_ _) | (with_reducible refine Kd.C_drewN ?_ _) | (with_reducible refine Kd.C_drew ?_))); (case side2 => exact HC0.out); rintro e w13 ⟨rfl, hb⟩; refine ⟨_, rfl, ?_⟩; have n0_ := Aside0.mk (below_step (by repeat (first | (with_reducible first | exact HB.out | apply below_alloc | apply pw_below_drewN | apply below_drew1) | exact HB.out)) hb); clear HB; have HB := n0_; clear n0_; (try clear hb); (try clear hb2); (try clear hk); (try clear hi)))
    go_ret
    exact ⟨_, by first | rfl | (simp [errW_none, errW_some] <;> rfl) | (simp [*, errW_none, errW_some] <;> rfl), by first | exact Kd.R_nil _ _ _ _ _ | exact Kd.N_nil _ _ _ _ _ | exact Kd.V_nil _ _ _ _ _ | exact Kd.Q_nil _ _ _ _ _ | exact Kd.S_nil _ _ _ _ _, by repeat (first | (with_reducible first | exact HB.out | apply below_alloc | apply pw_below_drewN | apply below_drew1) | exact HB.out)⟩

end Go.Proofs.Ytfgeickfheogoaa.Q
