/- A part of the proof that the statement FnTileBoxesSaid holds, under no condition of its own: Tiles cover the image, and are apart: the law FnTileBoxes over lists of numbers alone. -/
import Derived.Test.YtnofkbbcbpjhfaaCFnTileBoxes2
import Derived.Test.YtnofkbbcbpjhfaaCFnTileBoxes1
import Derived.BigQuiet
import Derived.Deep.QuietTactic
/- (impl.grid).runs: the runs of a grid, row by row. -/
namespace Go.Proofs.Ytnofkbbcbpjhfaa.Q
open Go.RowKit Go.Proofs.YtnofkbbcbpjhfaaW.PrintWords Go.Proofs.YtnofkbbcbpjhfaaW.PrintLast Go.Proofs.YtnofkbbcbpjhfaaW.PrintMore
attribute [local go_sem] max2_int min2_int max_two min_two max_three min_three max_four min_four
set_option linter.unusedVariables false
set_option linter.unusedSimpArgs false

/-- the end of the run that begins at x or before -/
def endAt (g : Nat → Bool) (y : Nat) : Nat → Nat → Nat
  | 0, x => x
  | n + 1, x => if x < 16 ∧ g (y * 16 + x) = true then endAt g y n (x + 1) else x
theorem endAt_ge (g : Nat → Bool) (y n x : Nat) : x ≤ endAt g y n x := by
  induction n generalizing x with
  | zero => exact Nat.le_refl _
  | succ n ih =>
    unfold endAt
    split
    · exact Nat.le_trans (Nat.le_succ x) (ih (x + 1))
    · exact Nat.le_refl _
/-- the runs of a row from column x on -/
def scanRow (g : Nat → Bool) (y x : Nat) : List S118 :=
  if _h : x < 16 then
    if g (y * 16 + x) = true then ⟨(y : Int), (x : Int), (endAt g y (16 - x) x : Nat)⟩ :: scanRow g y (endAt g y (16 - x) x + 1)
    else scanRow g y (x + 1)
  else []
  termination_by 16 - x
  decreasing_by
    · have := endAt_ge g y (16 - x) x; omega
    · omega
def runsTo (g : Nat → Bool) (y : Nat) : List S118 := (List.range y).flatMap fun y => scanRow g y 0
/-- the runs of a grid -/
def runsL (g : Nat → Bool) : List S118 := runsTo g 16
theorem runsTo_succ (g : Nat → Bool) (y : Nat) : runsTo g (y + 1) = runsTo g y ++ scanRow g y 0 := by
  simp [runsTo, List.range_succ]
theorem scan_true (g : Nat → Bool) (y x : Nat) (h : x < 16) (hg : g (y * 16 + x) = true) : scanRow g y x = ⟨(y : Int), (x : Int), (endAt g y (16 - x) x : Nat)⟩ :: scanRow g y (endAt g y (16 - x) x + 1) := by
  rw [scanRow, dif_pos h, if_pos hg]
theorem scan_false (g : Nat → Bool) (y x : Nat) (h : x < 16) (hg : g (y * 16 + x) = false) : scanRow g y x = scanRow g y (x + 1) := by
  rw [scanRow, dif_pos h, if_neg (by simp [hg])]
theorem scan_end (g : Nat → Bool) (y x : Nat) (h : 16 ≤ x) : scanRow g y x = [] := by
  rw [scanRow, dif_neg (by omega)]
theorem endAt_step (g : Nat → Bool) (y x : Nat) (h : x < 16) (hg : g (y * 16 + x) = true) : endAt g y (16 - x) x = endAt g y (16 - (x + 1)) (x + 1) := by
  rw [show 16 - x = (16 - (x + 1)) + 1 by omega]
  rw [endAt, if_pos ⟨h, hg⟩]
theorem endAt_stop (g : Nat → Bool) (y x : Nat) (h : 16 ≤ x ∨ g (y * 16 + x) = false) : endAt g y (16 - x) x = x := by
  cases hn : 16 - x with
  | zero => rfl
  | succ n => rw [endAt, if_neg (by rcases h with h | h; omega; simp [h])]

set_option maxHeartbeats 4000000 in
set_option maxRecDepth 100000 in
theorem runs_calls (g : Nat → Bool) (w : World) :
    Calls Try.prog 98 #[.agg (gc g)] w fun e w' => ∃ v0_ : Value, e = .returned (v0_) ∧ Kd.R k118 118 w' w.heap.size (fun _ => True) v0_ (runsL g) ∧ Below w.heap.size w w' := by
  have hu := Try.underlying118
  have hgs := gc_size g
  go_enter Try.func98, Try.ntmps98
  go_wp2
  go_loopw [3, 8] (fun v3 v8 W => ∃ y : Nat, v8 = .int .i64 y ∧ y ≤ 16 ∧ Aside0 (Kd.R k118 118 W w.heap.size (fun _ => True) v3 (runsTo g y) ∧ (runsTo g y).length ≤ 17 * y) ∧ GridAt W w.heap.size g ∧ Aside0 (Below w.heap.size w W)) (fun _ v8 _ => 16 - (intOf v8).toNat)
  case atStart =>
    have h := R_empty k118 118 w.heap.size (w.alloc (.cells (gc g) 112)) (by simp)
    simp only [World.size_alloc] at h
    exact ⟨0, rfl, by omega, ⟨h, by simp [runsTo]⟩, (GridAt.new _ _).alloc _, ⟨((Below.refl _ _).alloc (Nat.le_refl _) _).alloc (by simp) _⟩⟩
  case round =>
    obtain ⟨y, rfl, hy, hR, hg, hb⟩ := hrel
    by_cases hlt : y < 16
    · have hdy : decide ((y : Int) < 16) = true := by simp; omega
      go_wp2
      go_loopw [3, 5] (fun v3 v5 W => ∃ (x : Nat) (xs : List S118), v5 = .int .i64 x ∧ x ≤ 17 ∧ Aside0 (Kd.R k118 118 W w.heap.size (fun _ => True) v3 xs ∧ xs.length ≤ 17 * y + x ∧ xs ++ scanRow g y x = runsTo g (y + 1)) ∧ GridAt W w.heap.size g ∧ Aside0 (Below w.heap.size w W)) (fun _ v5 _ => 17 - (intOf v5).toNat)
      case atStart => exact ⟨0, _, rfl, by omega, ⟨hR.out.1, by have := hR.out.2; omega, (runsTo_succ g y).symm⟩, hg, hb⟩
      case round =>
        clear hR hg hb
        obtain ⟨x, xs, rfl, hx, hR, hg, hb⟩ := hrel
        by_cases hlx : x < 16
        · have hdx : decide ((x : Int) < 16) = true := by simp; omega
          have hc := hg.cell (y * 16 + x) (by omega)
          by_cases hv : g (y * 16 + x) = true
          · rw [hv] at hc
            have hs := scan_true g y x hlx hv
            have HS := Aside0.mk hs
            clear hs
            go_wp2
            go_loop [5] (fun v5 => ∃ z : Nat, v5 = .int .i64 z ∧ x ≤ z ∧ z ≤ 16 ∧ Aside0 (endAt g y (16 - z) z = endAt g y (16 - x) x)) (fun v5 => 16 - (intOf v5).toNat)
            case atStart => exact ⟨x, rfl, by omega, by omega, ⟨rfl⟩⟩
            case round =>
              clear hc
              obtain ⟨z, rfl, hxz, hz, hE⟩ := hrel
              have hgz := hg.alloc (.cells #[.int .i64 (y : Int), .int .i64 (x : Int), .int .i64 0] 118)
              by_cases hz16 : z < 16 ∧ g (y * 16 + z) = true
              · obtain ⟨hlz, hvz⟩ := hz16
                have hdz : decide ((z : Int) < 16) = true := by simp; omega
                have hc := hgz.cell (y * 16 + z) (by omega)
                rw [hvz] at hc
                have hE2 := Aside0.mk ((endAt_step g y z hlz hvz).symm.trans hE.out)
                clear hvz hE
                go_wp2
                go_round
                case rel => exact ⟨z + 1, by go_num, by omega, by omega, hE2⟩
                case measure => simp [intOf]; omega
              · have hz17 : 16 ≤ z ∨ g (y * 16 + z) = false := by
                  by_cases h : z < 16
                  · right
                    cases hgv : g (y * 16 + z) with
                    | false => rfl
                    | true => exact absurd ⟨h, hgv⟩ hz16
                  · left; omega
                have hstop := endAt_stop g y z hz17
                have hEZ := Aside0.mk (hE.out.symm.trans hstop)
                have hl24 : xs.length + 1 ≤ 1000 := by have := hR.out.2.1; omega
                have hRB := Aside0.mk (Kd.R_alloc hR.out.1 (.cells #[.int .i64 (y : Int), .int .i64 (x : Int), .int .i64 (z : Int)] 118))
                have hBB := Aside0.mk (below_alloc hb.out (.cells #[.int .i64 (y : Int), .int .i64 (x : Int), .int .i64 (z : Int)] 118))
                have hGB := Aside0.mk (blk_alloc hg (.cells #[.int .i64 (y : Int), .int .i64 (x : Int), .int .i64 (z : Int)] 118))
                have hNE := Aside0.mk (Kd.R_ne hRB.out hGB.out (by decide))
                clear hstop hE hz16
                rcases hz17 with hz17 | hz17
                · have hdz : decide ((z : Int) < 16) = false := by simp; omega
                  go_wp2_with (first | ((with_reducible refine gate_builtin (b := .append) (xs := #[.tmp 37, .tmp 39]) rfl ?_); at_builtin; refine Kd.R_append k118 w.heap.size rfl (.tmp 37) (.tmp 39) 43 118 (.agg #[(.int .i64 0), (.int .i64 0), (.int .i64 0)]) 24 rfl Try.underlying43 info118 rfl (by decide) (by omega) u3 xs (⟨(y : Int), (x : Int), (z : Int)⟩ : S118) [.int .i64 (y : Int), .int .i64 (x : Int), .int .i64 (z : Int)] (fun _ => True) (fun _ => False) rfl ?aX ?aP (fun _ hk => hk.elim) (fun _ _ => trivial) hRB.out hBB.out ?aS ?aL ?_; (case aX => rw [World.size_alloc]; rfl); (case aP => exact k118_mkM _ _ _ (⟨(y : Int), (x : Int), (z : Int)⟩ : S118)); (case aS => exact hBB.out.size); (case aL => omega); intro v4 w4 ho hb4 hg4 hat4; have hG4 := Aside0.mk (blk_grown hGB.out hg4 hNE.out); have hO4 := Aside0.mk ho; have hB4 := Aside0.mk hb4; clear ho hb4 hg4 hat4))
                  go_roundw
                  case rel =>
                    refine ⟨z + 1, xs ++ [⟨(y : Int), (x : Int), (z : Int)⟩], by go_num, by omega, ⟨hO4.out, by have := hR.out.2.1; rw [List.length_append]; simp; omega, ?_⟩, hG4.out, hB4⟩
                    have h1 := hR.out.2.2
                    rw [HS.out, hEZ.out] at h1
                    rw [List.append_assoc]; exact h1
                  case measure => simp [intOf]; omega
                · by_cases hlz : z < 16
                  · have hdz : decide ((z : Int) < 16) = true := by simp; omega
                    have hc := hgz.cell (y * 16 + z) (by omega)
                    rw [hz17] at hc
                    go_wp2_with (first | ((with_reducible refine gate_builtin (b := .append) (xs := #[.tmp 37, .tmp 39]) rfl ?_); at_builtin; refine Kd.R_append k118 w.heap.size rfl (.tmp 37) (.tmp 39) 43 118 (.agg #[(.int .i64 0), (.int .i64 0), (.int .i64 0)]) 24 rfl Try.underlying43 info118 rfl (by decide) (by omega) u3 xs (⟨(y : Int), (x : Int), (z : Int)⟩ : S118) [.int .i64 (y : Int), .int .i64 (x : Int), .int .i64 (z : Int)] (fun _ => True) (fun _ => False) rfl ?aX ?aP (fun _ hk => hk.elim) (fun _ _ => trivial) hRB.out hBB.out ?aS ?aL ?_; (case aX => rw [World.size_alloc]; rfl); (case aP => exact k118_mkM _ _ _ (⟨(y : Int), (x : Int), (z : Int)⟩ : S118)); (case aS => exact hBB.out.size); (case aL => omega); intro v4 w4 ho hb4 hg4 hat4; have hG4 := Aside0.mk (blk_grown hGB.out hg4 hNE.out); have hO4 := Aside0.mk ho; have hB4 := Aside0.mk hb4; clear ho hb4 hg4 hat4))
                    go_roundw
                    case rel =>
                      refine ⟨z + 1, xs ++ [⟨(y : Int), (x : Int), (z : Int)⟩], by go_num, by omega, ⟨hO4.out, by have := hR.out.2.1; rw [List.length_append]; simp; omega, ?_⟩, hG4.out, hB4⟩
                      have h1 := hR.out.2.2
                      rw [HS.out, hEZ.out] at h1
                      rw [List.append_assoc]; exact h1
                    case measure => simp [intOf]; omega

                  · have hdz : decide ((z : Int) < 16) = false := by simp; omega
                    go_wp2_with (first | ((with_reducible refine gate_builtin (b := .append) (xs := #[.tmp 37, .tmp 39]) rfl ?_); at_builtin; refine Kd.R_append k118 w.heap.size rfl (.tmp 37) (.tmp 39) 43 118 (.agg #[(.int .i64 0), (.int .i64 0), (.int .i64 0)]) 24 rfl Try.underlying43 info118 rfl (by decide) (by omega) u3 xs (⟨(y : Int), (x : Int), (z : Int)⟩ : S118) [.int .i64 (y : Int), .int .i64 (x : Int), .int .i64 (z : Int)] (fun _ => True) (fun _ => False) rfl ?aX ?aP (fun _ hk => hk.elim) (fun _ _ => trivial) hRB.out hBB.out ?aS ?aL ?_; (case aX => rw [World.size_alloc]; rfl); (case aP => exact k118_mkM _ _ _ (⟨(y : Int), (x : Int), (z : Int)⟩ : S118)); (case aS => exact hBB.out.size); (case aL => omega); intro v4 w4 ho hb4 hg4 hat4; have hG4 := Aside0.mk (blk_grown hGB.out hg4 hNE.out); have hO4 := Aside0.mk ho; have hB4 := Aside0.mk hb4; clear ho hb4 hg4 hat4))
                    go_roundw
                    case rel =>
                      refine ⟨z + 1, xs ++ [⟨(y : Int), (x : Int), (z : Int)⟩], by go_num, by omega, ⟨hO4.out, by have := hR.out.2.1; rw [List.length_append]; simp; omega, ?_⟩, hG4.out, hB4⟩
                      have h1 := hR.out.2.2
                      rw [HS.out, hEZ.out] at h1
                      rw [List.append_assoc]; exact h1
                    case measure => simp [intOf]; omega
          · replace hv : g (y * 16 + x) = false := by simpa using hv
            rw [hv] at hc
            have hs := scan_false g y x hlx hv
            have HS := Aside0.mk hs
            clear hs
            go_wp2
            go_roundw
            case rel => exact ⟨x + 1, xs, by go_num, by omega, ⟨hR.out.1, by have := hR.out.2.1; omega, by rw [← HS.out]; exact hR.out.2.2⟩, hg, hb⟩
            case measure => simp [intOf]; omega
        · have hdx : decide ((x : Int) < 16) = false := by simp; omega
          have he := scan_end g y x (by omega)
          have HE := Aside0.mk he
          clear he
          go_wp2
          go_roundw
          case rel =>
            have h1 := hR.out.2.2
            rw [HE.out, List.append_nil] at h1
            exact ⟨y + 1, by go_num, by omega, ⟨by rw [← h1]; exact hR.out.1, by rw [← h1]; have := hR.out.2.1; omega⟩, hg, hb⟩
          case measure => simp [intOf]; omega
    · have hdy : decide ((y : Int) < 16) = false := by simp; omega
      have hy16 : y = 16 := by omega
      subst hy16
      go_wp2
      go_ret
      exact ⟨_, rfl, hR.out.1, hb.out⟩
end Go.Proofs.Ytnofkbbcbpjhfaa.Q

namespace Go.Proofs.Ytnofkbbcbpjhfaa.Q
open Go.RowKit Go.Proofs.YtnofkbbcbpjhfaaW.PrintWords Go.Proofs.YtnofkbbcbpjhfaaW.PrintLast Go.Proofs.YtnofkbbcbpjhfaaW.PrintMore
attribute [local go_sem] max2_int min2_int max_two min_two max_three min_three max_four min_four
set_option linter.unusedVariables false
set_option linter.unusedSimpArgs false
/-! ### impl_Box_has: function 97 -/
def impl_Box_has.f (a0_0 : Int) (a0_1 : Int) (a0_2 : Int) (a0_3 : Int) (a1 : Int) (a2 : Int) : Option (Bool) := if a1 ≥ a0_0 then (if a1 < (wrap64 (a0_0 + a0_2)) then (if a2 ≥ a0_1 then (some (decide (a2 < (wrap64 (a0_1 + a0_3))))) else (some false)) else (some false)) else (some false)
set_option maxHeartbeats 8000000 in
set_option maxRecDepth 100000 in
theorem impl_Box_has.calls (a0_0 : Int) (a0_1 : Int) (a0_2 : Int) (a0_3 : Int) (a1 : Int) (a2 : Int) (r : Bool) (w : World) (h : impl_Box_has.f a0_0 a0_1 a0_2 a0_3 a1 a2 = some r) :
    Calls Try.prog 97 #[.agg #[.int .i64 a0_0, .int .i64 a0_1, .int .i64 a0_2, .int .i64 a0_3], .int .i64 a1, .int .i64 a2] w fun e w' => e = .returned (.bool r) ∧ Below w.heap.size w w' := by
  have hu47 := Try.underlying47
  have HB := Aside0.mk (Below.refl w.heap.size w)
  have H : (if a1 ≥ a0_0 then (if a1 < (wrap64 (a0_0 + a0_2)) then (if a2 ≥ a0_1 then (some (decide (a2 < (wrap64 (a0_1 + a0_3))))) else (some false)) else (some false)) else (some false)) = some r := h
  clear h
  by_cases c4 : a1 ≥ a0_0
  · rw [if_pos c4] at H
    have c4b0 : decide (a0_0 ≤ a1) = true := decide_eq_true c4
    clear c4
    by_cases c5 : a1 < (wrap64 (a0_0 + a0_2))
    · rw [if_pos c5] at H
      have c5b0 : decide (a1 < (wrap64 (a0_0 + a0_2))) = true := decide_eq_true c5
      clear c5
      by_cases c6 : a2 ≥ a0_1
      · rw [if_pos c6] at H
        have c6b0 : decide (a0_1 ≤ a2) = true := decide_eq_true c6
        clear c6
        obtain rfl := Option.some.inj H
        go_enter Try.func97, Try.ntmps97
        go_wp2_with (first | ((with_reducible refine gate_dst (N := 3) rfl ?_); refine box_event ?hg (N := 3) ?hd (cs := #[.int .i64 a0_0, .int .i64 a0_1, .int .i64 a0_2, .int .i64 a0_3]) (t := 47) ?hr ?_; (case hd => rfl); (case hg => rfl); (case hr => first | (go_simp; done) | (go_simp; rfl)); intro gb98001 hg w7 hbox hb; have n0_ := Aside0.mk (below_step (by repeat (first | (with_reducible first | exact HB.out | apply below_alloc | apply pw_below_drewN | apply below_drew1) | exact HB.out)) hb); have n1_ := Aside0.mk (hbox); have n2_ := Aside0.mk ((by rw [hg]; exact (below_size (by repeat (first | (with_reducible first | exact HB.out | apply below_alloc | apply pw_below_drewN | apply below_drew1) | exact HB.out))) : w.heap.size ≤ gb98001)); have n3_ := Aside0.mk ((by rw [hg]; exact (below_size (by repeat (first | (with_reducible first | exact HB.out | apply below_alloc | apply pw_below_drewN | apply below_drew1) | exact HB.out))) : w.heap.size ≤ gb98001)); clear HB; have HB := n0_; have BK98001 := n1_; have GW98001 := n2_; have GE98001 := n3_; clear n0_ n1_ n2_ n3_; clear hb hbox hg; have hcz8_0 : w7.cell? ⟨gb98001, 0, none⟩ = some (.int .i64 a0_0) := (blk_cell BK98001.out 0).trans rfl; have hcz8_1 : w7.cell? ⟨gb98001, 1, none⟩ = some (.int .i64 a0_1) := (blk_cell BK98001.out 1).trans rfl; have hcz8_2 : w7.cell? ⟨gb98001, 2, none⟩ = some (.int .i64 a0_2) := (blk_cell BK98001.out 2).trans rfl; have hcz8_3 : w7.cell? ⟨gb98001, 3, none⟩ = some (.int .i64 a0_3) := (blk_cell BK98001.out 3).trans rfl; have hfz8_0 := blk_frozen BK98001.out 0; have hfz8_1 := blk_frozen BK98001.out 1; have hfz8_2 := blk_frozen BK98001.out 2; have hfz8_3 := blk_frozen BK98001.out 3))
        go_ret
        exact ⟨by first | rfl | (simp [errW_none, errW_some] <;> rfl) | (simp [*, errW_none, errW_some] <;> rfl), by repeat (first | (with_reducible first | exact HB.out | apply below_alloc | apply pw_below_drewN | apply below_drew1 | refine below_set ?_ GE98001.out) | exact HB.out)⟩
      · rw [if_neg c6] at H
        have c6b0 : decide (a0_1 ≤ a2) = false := decide_eq_false c6
        clear c6
        obtain rfl := Option.some.inj H
        go_enter Try.func97, Try.ntmps97
        go_wp2_with (first | ((with_reducible refine gate_dst (N := 3) rfl ?_); refine box_event ?hg (N := 3) ?hd (cs := #[.int .i64 a0_0, .int .i64 a0_1, .int .i64 a0_2, .int .i64 a0_3]) (t := 47) ?hr ?_; (case hd => rfl); (case hg => rfl); (case hr => first | (go_simp; done) | (go_simp; rfl)); intro gb98001 hg w9 hbox hb; have n0_ := Aside0.mk (below_step (by repeat (first | (with_reducible first | exact HB.out | apply below_alloc | apply pw_below_drewN | apply below_drew1) | exact HB.out)) hb); have n1_ := Aside0.mk (hbox); have n2_ := Aside0.mk ((by rw [hg]; exact (below_size (by repeat (first | (with_reducible first | exact HB.out | apply below_alloc | apply pw_below_drewN | apply below_drew1) | exact HB.out))) : w.heap.size ≤ gb98001)); have n3_ := Aside0.mk ((by rw [hg]; exact (below_size (by repeat (first | (with_reducible first | exact HB.out | apply below_alloc | apply pw_below_drewN | apply below_drew1) | exact HB.out))) : w.heap.size ≤ gb98001)); clear HB; have HB := n0_; have BK98001 := n1_; have GW98001 := n2_; have GE98001 := n3_; clear n0_ n1_ n2_ n3_; clear hb hbox hg; have hcz10_0 : w9.cell? ⟨gb98001, 0, none⟩ = some (.int .i64 a0_0) := (blk_cell BK98001.out 0).trans rfl; have hcz10_1 : w9.cell? ⟨gb98001, 1, none⟩ = some (.int .i64 a0_1) := (blk_cell BK98001.out 1).trans rfl; have hcz10_2 : w9.cell? ⟨gb98001, 2, none⟩ = some (.int .i64 a0_2) := (blk_cell BK98001.out 2).trans rfl; have hcz10_3 : w9.cell? ⟨gb98001, 3, none⟩ = some (.int .i64 a0_3) := (blk_cell BK98001.out 3).trans rfl; have hfz10_0 := blk_frozen BK98001.out 0; have hfz10_1 := blk_frozen BK98001.out 1; have hfz10_2 := blk_frozen BK98001.out 2; have hfz10_3 := blk_frozen BK98001.out 3))
        go_ret
        exact ⟨by first | rfl | (simp [errW_none, errW_some] <;> rfl) | (simp [*, errW_none, errW_some] <;> rfl), by repeat (first | (with_reducible first | exact HB.out | apply below_alloc | apply pw_below_drewN | apply below_drew1 | refine below_set ?_ GE98001.out) | exact HB.out)⟩
    · rw [if_neg c5] at H
      have c5b0 : decide (a1 < (wrap64 (a0_0 + a0_2))) = false := decide_eq_false c5
      clear c5
      obtain rfl := Option.some.inj H
      go_enter Try.func97, Try.ntmps97
      go_wp2_with (first | ((with_reducible refine gate_dst (N := 3) rfl ?_); refine box_event ?hg (N := 3) ?hd (cs := #[.int .i64 a0_0, .int .i64 a0_1, .int .i64 a0_2, .int .i64 a0_3]) (t := 47) ?hr ?_; (case hd => rfl); (case hg => rfl); (case hr => first | (go_simp; done) | (go_simp; rfl)); intro gb98001 hg w11 hbox hb; have n0_ := Aside0.mk (below_step (by repeat (first | (with_reducible first | exact HB.out | apply below_alloc | apply pw_below_drewN | apply below_drew1) | exact HB.out)) hb); have n1_ := Aside0.mk (hbox); have n2_ := Aside0.mk ((by rw [hg]; exact (below_size (by repeat (first | (with_reducible first | exact HB.out | apply below_alloc | apply pw_below_drewN | apply below_drew1) | exact HB.out))) : w.heap.size ≤ gb98001)); have n3_ := Aside0.mk ((by rw [hg]; exact (below_size (by repeat (first | (with_reducible first | exact HB.out | apply below_alloc | apply pw_below_drewN | apply below_drew1) | exact HB.out))) : w.heap.size ≤ gb98001)); clear HB; have HB := n0_; have BK98001 := n1_; have GW98001 := n2_; have GE98001 := n3_; clear n0_ n1_ n2_ n3_; clear hb hbox hg; have hcz12_0 : w11.cell? ⟨gb98001, 0, none⟩ = some (.int .i64 a0_0) := (blk_cell BK98001.out 0).trans rfl; have hcz12_1 : w11.cell? ⟨gb98001, 1, none⟩ = some (.int .i64 a0_1) := (blk_cell BK98001.out 1).trans rfl; have hcz12_2 : w11.cell? ⟨gb98001, 2, none⟩ = some (.int .i64 a0_2) := (blk_cell BK98001.out 2).trans rfl; have hcz12_3 : w11.cell? ⟨gb98001, 3, none⟩ = some (.int .i64 a0_3) := (blk_cell BK98001.out 3).trans rfl; have hfz12_0 := blk_frozen BK98001.out 0; have hfz12_1 := blk_frozen BK98001.out 1; have hfz12_2 := blk_frozen BK98001.out 2; have hfz12_3 := blk_frozen BK98001.out 3))
      go_ret
      exact ⟨by first | rfl | (simp [errW_none, errW_some] <;> rfl) | (simp [*, errW_none, errW_some] <;> rfl), by repeat (first | (with_reducible first | exact HB.out | apply below_alloc | apply pw_below_drewN | apply below_drew1 | refine below_set ?_ GE98001.out) | exact HB.out)⟩
  · rw [if_neg c4] at H
    have c4b0 : decide (a0_0 ≤ a1) = false := decide_eq_false c4
    clear c4
    obtain rfl := Option.some.inj H
    go_enter Try.func97, Try.ntmps97
    go_wp2_with (first | ((with_reducible refine gate_dst (N := 3) rfl ?_); refine box_event ?hg (N := 3) ?hd (cs := #[.int .i64 a0_0, .int .i64 a0_1, .int .i64 a0_2, .int .i64 a0_3]) (t := 47) ?hr ?_; (case hd => rfl); (case hg => rfl); (case hr => first | (go_simp; done) | (go_simp; rfl)); intro gb98001 hg w13 hbox hb; have n0_ := Aside0.mk (below_step (by repeat (first | (with_reducible first | exact HB.out | apply below_alloc | apply pw_below_drewN | apply below_drew1) | exact HB.out)) hb); have n1_ := Aside0.mk (hbox); have n2_ := Aside0.mk ((by rw [hg]; exact (below_size (by repeat (first | (with_reducible first | exact HB.out | apply below_alloc | apply pw_below_drewN | apply below_drew1) | exact HB.out))) : w.heap.size ≤ gb98001)); have n3_ := Aside0.mk ((by rw [hg]; exact (below_size (by repeat (first | (with_reducible first | exact HB.out | apply below_alloc | apply pw_below_drewN | apply below_drew1) | exact HB.out))) : w.heap.size ≤ gb98001)); clear HB; have HB := n0_; have BK98001 := n1_; have GW98001 := n2_; have GE98001 := n3_; clear n0_ n1_ n2_ n3_; clear hb hbox hg; have hcz14_0 : w13.cell? ⟨gb98001, 0, none⟩ = some (.int .i64 a0_0) := (blk_cell BK98001.out 0).trans rfl; have hcz14_1 : w13.cell? ⟨gb98001, 1, none⟩ = some (.int .i64 a0_1) := (blk_cell BK98001.out 1).trans rfl; have hcz14_2 : w13.cell? ⟨gb98001, 2, none⟩ = some (.int .i64 a0_2) := (blk_cell BK98001.out 2).trans rfl; have hcz14_3 : w13.cell? ⟨gb98001, 3, none⟩ = some (.int .i64 a0_3) := (blk_cell BK98001.out 3).trans rfl; have hfz14_0 := blk_frozen BK98001.out 0; have hfz14_1 := blk_frozen BK98001.out 1; have hfz14_2 := blk_frozen BK98001.out 2; have hfz14_3 := blk_frozen BK98001.out 3))
    go_ret
    exact ⟨by first | rfl | (simp [errW_none, errW_some] <;> rfl) | (simp [*, errW_none, errW_some] <;> rfl), by repeat (first | (with_reducible first | exact HB.out | apply below_alloc | apply pw_below_drewN | apply below_drew1 | refine below_set ?_ GE98001.out) | exact HB.out)⟩

end Go.Proofs.Ytnofkbbcbpjhfaa.Q

/- Plain words: numbers that do not wrap, elements of lists, rounds that are enough. -/
namespace Go.Proofs.Ytnofkbbcbpjhfaa.Pure
open Go.RowKit Go.Proofs.Ytnofkbbcbpjhfaa.Q Go.Proofs.YtnofkbbcbpjhfaaW.PrintWords Go.Proofs.YtnofkbbcbpjhfaaW.PrintLast Go.Proofs.YtnofkbbcbpjhfaaW.PrintMore
set_option linter.unusedVariables false
set_option linter.unusedSimpArgs false

theorem w64 {x : Int} (h1 : -9223372036854775808 ≤ x) (h2 : x ≤ 9223372036854775807) : wrap64 x = x := by unfold wrap64; omega
theorem w64n (n : Nat) (h : n < 9223372036854775807) : wrap64 ((n : Int) + 1) = ((n + 1 : Nat) : Int) := by unfold wrap64; omega
theorem rd_nat (l : List Int) (i : Nat) (h : i < l.length) : rd l (i : Int) = l[i] := by simp [rd, h]
theorem tdiv_nn (a b : Int) (h : 0 ≤ a) : Int.tdiv a b = a / b := Int.tdiv_eq_ediv_of_nonneg h
theorem tmod_nn (a b : Int) (h : 0 ≤ a) : Int.tmod a b = a % b := Int.tmod_eq_emod_of_nonneg h
/-- From K rounds on. -/
theorem ev_of {α : Type} {g : Nat → Option α} {r : α} (K : Nat) (h : ∀ k, K < k → g k = some r) : Ev g r := ⟨K + 1, fun k hk => h k (by omega)⟩
theorem ev_const {α : Type} {o : Option α} {r : α} (h : o = some r) : Ev (fun _ => o) r := ⟨0, fun _ _ => h⟩
theorem ev_bind {α β : Type} {g : Nat → Option α} {f : Nat → α → Option β} {a : α} {r : β} (h : Ev g a) (k : Ev (fun n => f n a) r) : Ev (fun n => (g n).bind (f n)) r := Ev.bind h k
theorem ev_now {α β : Type} {o : Option α} {f : Nat → α → Option β} {a : α} {r : β} (h : o = some a) (k : Ev (fun n => f n a) r) : Ev (fun n => o.bind (f n)) r := Ev.bind (ev_const h) k
theorem ev_pos {α : Type} {c : Prop} [Decidable c] {f g : Nat → Option α} {r : α} (h : c) (k : Ev f r) : Ev (fun n => if c then f n else g n) r := by
  simpa [h] using k
theorem ev_neg {α : Type} {c : Prop} [Decidable c] {f g : Nat → Option α} {r : α} (h : ¬ c) (k : Ev g r) : Ev (fun n => if c then f n else g n) r := by
  simpa [h] using k
theorem mn_def (a b : Int) : mn a b = min a b := by unfold mn; omega
/-- A loop that counts up to n: what it answers from i on. -/
theorem loop_up {σ ρ : Type} (K n : Nat) (L : Nat → Nat → σ → Option ρ) (Inv : Nat → σ → Prop) (F : Nat → σ → ρ)
    (step : ∀ i s k, i < n → Inv i s → K ≤ k → (L (k + 1) i s = some (F i s)) ∨ ∃ s', L (k + 1) i s = L k (i + 1) s' ∧ Inv (i + 1) s' ∧ F (i + 1) s' = F i s)
    (last : ∀ s k, Inv n s → K ≤ k → L (k + 1) n s = some (F n s)) :
    ∀ d i s k, i + d = n → Inv i s → K + d < k → L k i s = some (F i s) := by
  intro d
  induction d with
  | zero =>
    intro i s k hi hinv hk
    obtain ⟨k, rfl⟩ : ∃ m, k = m + 1 := ⟨k - 1, by omega⟩
    have : i = n := by omega
    subst this
    exact last s k hinv (by omega)
  | succ d ih =>
    intro i s k hi hinv hk
    obtain ⟨k, rfl⟩ : ∃ m, k = m + 1 := ⟨k - 1, by omega⟩
    rcases step i s k (by omega) hinv (by omega) with h | ⟨s', h, hi', hF⟩
    · exact h
    · rw [h, ih (i + 1) s' k (by omega) hi' (by omega), hF]
/-- The same, from some number of rounds on: for loops in loops. -/
theorem ev_up {σ ρ : Type} (n : Nat) (L : Nat → Nat → σ → Option ρ) (Inv : Nat → σ → Prop) (F : Nat → σ → ρ)
    (step : ∀ i s, i < n → Inv i s → Ev (fun k => L k i s) (F i s) ∨ ∃ s', (∀ k, L (k + 1) i s = L k (i + 1) s') ∧ Inv (i + 1) s' ∧ F (i + 1) s' = F i s)
    (last : ∀ s, Inv n s → Ev (fun k => L k n s) (F n s)) :
    ∀ d i s, i + d = n → Inv i s → Ev (fun k => L k i s) (F i s) := by
  intro d
  induction d with
  | zero =>
    intro i s hi hinv
    have : i = n := by omega
    subst this
    exact last s hinv
  | succ d ih =>
    intro i s hi hinv
    rcases step i s (by omega) hinv with h | ⟨s', h, hi', hF⟩
    · exact h
    · rw [← hF]
      exact Ev.step h (ih (i + 1) s' (by omega) hi')
theorem ev_up2 {σ ρ : Type} (n : Nat) (L : Nat → Nat → σ → Option ρ) (Inv : Nat → σ → Prop) (F : Nat → σ → ρ)
    (step : ∀ i s, i < n → Inv i s → Ev (fun k => L k i s) (F i s) ∨ ∃ s', (∀ r, Ev (fun k => L k (i + 1) s') r → Ev (fun k => L k i s) r) ∧ Inv (i + 1) s' ∧ F (i + 1) s' = F i s)
    (last : ∀ s, Inv n s → Ev (fun k => L k n s) (F n s)) :
    ∀ d i s, i + d = n → Inv i s → Ev (fun k => L k i s) (F i s) := by
  intro d
  induction d with
  | zero =>
    intro i s hi hinv
    have : i = n := by omega
    subst this
    exact last s hinv
  | succ d ih =>
    intro i s hi hinv
    rcases step i s (by omega) hinv with h | ⟨s', h, hi', hF⟩
    · exact h
    · rw [← hF]
      exact h _ (ih (i + 1) s' (by omega) hi')
end Go.Proofs.Ytnofkbbcbpjhfaa.Pure

/- impl.BoxRegion: the runs of the grid of a box's pixels. -/
namespace Go.Proofs.Ytnofkbbcbpjhfaa.Q
open Go.RowKit Go.Proofs.YtnofkbbcbpjhfaaW.PrintWords Go.Proofs.YtnofkbbcbpjhfaaW.PrintLast Go.Proofs.YtnofkbbcbpjhfaaW.PrintMore
attribute [local go_sem] max2_int min2_int max_two min_two max_three min_three max_four min_four
set_option linter.unusedVariables false
set_option linter.unusedSimpArgs false
open Go.Proofs.Ytnofkbbcbpjhfaa.Pure

/-- whether a box lies on the grid -/
def boxOk (b0 b1 b2 b3 : Int) : Bool := decide (0 ≤ b0 ∧ b0 < 16 ∧ 0 ≤ b1 ∧ b1 < 16 ∧ 1 ≤ b2 ∧ b2 ≤ 16 - b0 ∧ 1 ≤ b3 ∧ b3 ≤ 16 - b1)
/-- whether a pixel is in a box -/
def inBox (b0 b1 b2 b3 : Int) (x y : Nat) : Bool := decide (b0 ≤ (x : Int)) && decide ((x : Int) < b0 + b2) && decide (b1 ≤ (y : Int)) && decide ((y : Int) < b1 + b3)
theorem has_eq (b0 b1 b2 b3 : Int) (h0 : 0 ≤ b0 ∧ b0 < 16 ∧ 0 ≤ b1 ∧ b1 < 16 ∧ 1 ≤ b2 ∧ b2 ≤ 16 - b0 ∧ 1 ≤ b3 ∧ b3 ≤ 16 - b1) (x y : Nat) : impl_Box_has.f b0 b1 b2 b3 (x : Int) (y : Int) = some (inBox b0 b1 b2 b3 x y) := by
  unfold impl_Box_has.f inBox
  rw [w64 (x := b0 + b2) (by omega) (by omega), w64 (x := b1 + b3) (by omega) (by omega)]
  by_cases c1 : b0 ≤ (x : Int)
  · rw [if_pos c1]
    by_cases c2 : (x : Int) < b0 + b2
    · rw [if_pos c2]
      by_cases c3 : b1 ≤ (y : Int)
      · rw [if_pos c3, decide_eq_true c1, decide_eq_true c2, decide_eq_true c3]; simp
      · rw [if_neg c3, decide_eq_false c3]; simp
    · rw [if_neg c2, decide_eq_false c2]; simp
  · rw [if_neg c1, decide_eq_false c1]; simp
def impl_BoxRegion.f (b0 b1 b2 b3 : Int) : Option (List S118 × Bool) := some (if boxOk b0 b1 b2 b3 = true then (runsL (gso (inBox b0 b1 b2 b3) 256), true) else ([], false))

set_option maxHeartbeats 4000000 in
set_option maxRecDepth 100000 in
theorem boxHas_calls (b0 b1 b2 b3 : Int) (h0 : 0 ≤ b0 ∧ b0 < 16 ∧ 0 ≤ b1 ∧ b1 < 16 ∧ 1 ≤ b2 ∧ b2 ≤ 16 - b0 ∧ 1 ≤ b3 ∧ b3 ≤ 16 - b1) (x y : Nat) (B : Nat) (w : World)
    (hB : w.heap[B]? = some (.cells #[.int .i64 b0, .int .i64 b1, .int .i64 b2, .int .i64 b3] 47 (0, 0))) :
    Calls Try.prog 96 #[.int .i64 (x : Int), .int .i64 (y : Int), .pointer (some ⟨B, 0, none⟩)] w fun e w' => e = .returned (.bool (inBox b0 b1 b2 b3 x y)) ∧ Below w.heap.size w w' := by
  have hu := Try.underlying47
  have HC := Aside0.mk (impl_Box_has.calls b0 b1 b2 b3 (x : Int) (y : Int) _ w (has_eq b0 b1 b2 b3 h0 x y))
  have c0 : w.cell? ⟨B, 0, none⟩ = some (.int .i64 b0) := (blk_cell hB 0).trans rfl
  have c1 : w.cell? ⟨B, 1, none⟩ = some (.int .i64 b1) := (blk_cell hB 1).trans rfl
  have c2 : w.cell? ⟨B, 2, none⟩ = some (.int .i64 b2) := (blk_cell hB 2).trans rfl
  have c3 : w.cell? ⟨B, 3, none⟩ = some (.int .i64 b3) := (blk_cell hB 3).trans rfl
  clear h0
  go_enter Try.func96, Try.ntmps96
  go_wp2_with (first | (go_at_call 97; refine HC.out.mono ?_; rintro e w1 ⟨rfl, hb1⟩; have HB1 := Aside0.mk hb1; clear hb1))
  go_ret
  exact ⟨rfl, HB1.out⟩
set_option maxHeartbeats 4000000 in
set_option maxRecDepth 100000 in
theorem impl_BoxRegion.calls (b0 b1 b2 b3 : Int) (r1 : List S118) (r2 : Bool) (w : World) (h : impl_BoxRegion.f b0 b1 b2 b3 = some (r1, r2)) :
    Calls Try.prog 36 #[.agg #[.int .i64 b0, .int .i64 b1, .int .i64 b2, .int .i64 b3]] w fun e w' => ∃ v0_ : Value, e = .returned (.tuple #[v0_, .bool r2]) ∧ Kd.R k118 118 w' w.heap.size (fun _ => True) v0_ r1 ∧ Below w.heap.size w w' := by
  have h' := Option.some.inj h
  clear h
  have hu := Try.underlying47
  have hB := Aside0.mk (below_alloc (Below.refl w.heap.size w) (.cells #[.int .i64 b0, .int .i64 b1, .int .i64 b2, .int .i64 b3] 47))
  by_cases ho : boxOk b0 b1 b2 b3 = true
  · rw [if_pos ho] at h'
    obtain ⟨rfl, rfl⟩ := Prod.mk.inj h'
    clear h'
    have h0 : 0 ≤ b0 ∧ b0 < 16 ∧ 0 ≤ b1 ∧ b1 < 16 ∧ 1 ≤ b2 ∧ b2 ≤ 16 - b0 ∧ 1 ≤ b3 ∧ b3 ≤ 16 - b1 := by simpa [boxOk] using ho
    clear ho
    have d1 : decide (b0 < 0) = false := by simp; omega
    have d2 : decide (16 ≤ b0) = false := by simp; omega
    have d3 : decide (b1 < 0) = false := by simp; omega
    have d4 : decide (16 ≤ b1) = false := by simp; omega
    have d5 : decide (b2 < 1) = false := by simp; omega
    have d6 : decide (wrap64 (16 - b0) < b2) = false := by rw [w64 (x := 16 - b0) (by omega) (by omega)]; simp; omega
    have d7 : decide (b3 < 1) = false := by simp; omega
    have d8 : decide (wrap64 (16 - b1) < b3) = false := by rw [w64 (x := 16 - b1) (by omega) (by omega)]; simp; omega
    have hblk := Aside0.mk (blk_new w (.cells #[.int .i64 b0, .int .i64 b1, .int .i64 b2, .int .i64 b3] 47))
    have HG := Aside0.mk (fun W' => gridBy_calls 96 #[.pointer (some ⟨w.heap.size, 0, none⟩)] (inBox b0 b1 b2 b3) W' (enters_of Try.func96 (by kernel_rfl) rfl))
    go_enter Try.func36, Try.ntmps36
    go_wp2_with (first
      | (go_at_call 95; refine (HG.out _ (fun W x y _ _ hW => boxHas_calls b0 b1 b2 b3 h0 x y w.heap.size W (blk_below hblk.out hW))).mono ?_; rintro e w2 ⟨rfl, hb2⟩; have HB2 := Aside0.mk (below_then hB.out hB.out.size hb2); clear hb2)
      | (go_at_call 98; refine (runs_calls _ _).mono ?_; rintro e w3 ⟨v3, rfl, hr3, hb3⟩; have HR3 := Aside0.mk (Kd.R_lower hr3 HB2.out.size); have HB3 := Aside0.mk (below_then HB2.out HB2.out.size hb3); clear hb3 hr3))
    go_ret2
    exact ⟨v3, rfl, HR3.out, HB3.out⟩
  · rw [if_neg ho] at h'
    obtain ⟨rfl, rfl⟩ := Prod.mk.inj h'
    clear h'
    have h0 : b0 < 0 ∨ (¬ b0 < 0 ∧ 16 ≤ b0) ∨ (0 ≤ b0 ∧ b0 < 16 ∧ b1 < 0) ∨ (0 ≤ b0 ∧ b0 < 16 ∧ ¬ b1 < 0 ∧ 16 ≤ b1) ∨ (0 ≤ b0 ∧ b0 < 16 ∧ 0 ≤ b1 ∧ b1 < 16 ∧ b2 < 1) ∨ (0 ≤ b0 ∧ b0 < 16 ∧ 0 ≤ b1 ∧ b1 < 16 ∧ ¬ b2 < 1 ∧ 16 - b0 < b2) ∨ (0 ≤ b0 ∧ b0 < 16 ∧ 0 ≤ b1 ∧ b1 < 16 ∧ 1 ≤ b2 ∧ b2 ≤ 16 - b0 ∧ b3 < 1) ∨ (0 ≤ b0 ∧ b0 < 16 ∧ 0 ≤ b1 ∧ b1 < 16 ∧ 1 ≤ b2 ∧ b2 ≤ 16 - b0 ∧ ¬ b3 < 1 ∧ 16 - b1 < b3) := by
      have : ¬ (0 ≤ b0 ∧ b0 < 16 ∧ 0 ≤ b1 ∧ b1 < 16 ∧ 1 ≤ b2 ∧ b2 ≤ 16 - b0 ∧ 1 ≤ b3 ∧ b3 ≤ 16 - b1) := by simpa [boxOk] using ho
      omega
    clear ho
    rcases h0 with h0 | h0 | h0 | h0 | h0 | h0 | h0 | h0
    · have d1 : decide (b0 < 0) = true := by simp; omega
      clear h0
      go_enter Try.func36, Try.ntmps36
      go_wp2
      go_ret2
      exact ⟨_, rfl, Kd.R_nil _ _ _ _ _, hB.out⟩
    · have d1 : decide (b0 < 0) = false := by simp; omega
      have d2 : decide (16 ≤ b0) = true := by simp; omega
      clear h0
      go_enter Try.func36, Try.ntmps36
      go_wp2
      go_ret2
      exact ⟨_, rfl, Kd.R_nil _ _ _ _ _, hB.out⟩
    · have d1 : decide (b0 < 0) = false := by simp; omega
      have d2 : decide (16 ≤ b0) = false := by simp; omega
      have d3 : decide (b1 < 0) = true := by simp; omega
      clear h0
      go_enter Try.func36, Try.ntmps36
      go_wp2
      go_ret2
      exact ⟨_, rfl, Kd.R_nil _ _ _ _ _, hB.out⟩
    · have d1 : decide (b0 < 0) = false := by simp; omega
      have d2 : decide (16 ≤ b0) = false := by simp; omega
      have d3 : decide (b1 < 0) = false := by simp; omega
      have d4 : decide (16 ≤ b1) = true := by simp; omega
      clear h0
      go_enter Try.func36, Try.ntmps36
      go_wp2
      go_ret2
      exact ⟨_, rfl, Kd.R_nil _ _ _ _ _, hB.out⟩
    · have d1 : decide (b0 < 0) = false := by simp; omega
      have d2 : decide (16 ≤ b0) = false := by simp; omega
      have d3 : decide (b1 < 0) = false := by simp; omega
      have d4 : decide (16 ≤ b1) = false := by simp; omega
      have d5 : decide (b2 < 1) = true := by simp; omega
      clear h0
      go_enter Try.func36, Try.ntmps36
      go_wp2
      go_ret2
      exact ⟨_, rfl, Kd.R_nil _ _ _ _ _, hB.out⟩
    · have d1 : decide (b0 < 0) = false := by simp; omega
      have d2 : decide (16 ≤ b0) = false := by simp; omega
      have d3 : decide (b1 < 0) = false := by simp; omega
      have d4 : decide (16 ≤ b1) = false := by simp; omega
      have d5 : decide (b2 < 1) = false := by simp; omega
      have d6 : decide (wrap64 (16 - b0) < b2) = true := by rw [w64 (x := 16 - b0) (by omega) (by omega)]; simp; omega
      clear h0
      go_enter Try.func36, Try.ntmps36
      go_wp2
      go_ret2
      exact ⟨_, rfl, Kd.R_nil _ _ _ _ _, hB.out⟩
    · have d1 : decide (b0 < 0) = false := by simp; omega
      have d2 : decide (16 ≤ b0) = false := by simp; omega
      have d3 : decide (b1 < 0) = false := by simp; omega
      have d4 : decide (16 ≤ b1) = false := by simp; omega
      have d5 : decide (b2 < 1) = false := by simp; omega
      have d6 : decide (wrap64 (16 - b0) < b2) = false := by rw [w64 (x := 16 - b0) (by omega) (by omega)]; simp; omega
      have d7 : decide (b3 < 1) = true := by simp; omega
      clear h0
      go_enter Try.func36, Try.ntmps36
      go_wp2
      go_ret2
      exact ⟨_, rfl, Kd.R_nil _ _ _ _ _, hB.out⟩
    · have d1 : decide (b0 < 0) = false := by simp; omega
      have d2 : decide (16 ≤ b0) = false := by simp; omega
      have d3 : decide (b1 < 0) = false := by simp; omega
      have d4 : decide (16 ≤ b1) = false := by simp; omega
      have d5 : decide (b2 < 1) = false := by simp; omega
      have d6 : decide (wrap64 (16 - b0) < b2) = false := by rw [w64 (x := 16 - b0) (by omega) (by omega)]; simp; omega
      have d7 : decide (b3 < 1) = false := by simp; omega
      have d8 : decide (wrap64 (16 - b1) < b3) = true := by rw [w64 (x := 16 - b1) (by omega) (by omega)]; simp; omega
      clear h0
      go_enter Try.func36, Try.ntmps36
      go_wp2
      go_ret2
      exact ⟨_, rfl, Kd.R_nil _ _ _ _ _, hB.out⟩
end Go.Proofs.Ytnofkbbcbpjhfaa.Q

namespace Go.Proofs.Ytnofkbbcbpjhfaa.Q
open Go.RowKit Go.Proofs.YtnofkbbcbpjhfaaW.PrintWords Go.Proofs.YtnofkbbcbpjhfaaW.PrintLast Go.Proofs.YtnofkbbcbpjhfaaW.PrintMore
attribute [local go_sem] max2_int min2_int max_two min_two max_three min_three max_four min_four
set_option linter.unusedVariables false
set_option linter.unusedSimpArgs false
/-! ### impl_isRegion: function 99 -/
mutual
def impl_isRegion.l0 : Nat → List (S118) → List (S118) → Int → Int → Option (Bool)
  | 0, _, _, _, _ => none
  | k + 1, x0, x6, x7, x8 => if x8 < x7 then (if 0 ≤ x8 then (if x8 < (x6.length : Int) then (if ((rd_T118 x6 x8).f0) < 0 then (impl_isRegion.j1 k x0 x8 x6 x7 x8 true ((rd_T118 x6 x8).f0) ((rd_T118 x6 x8).f1) ((rd_T118 x6 x8).f2)) else (if ((rd_T118 x6 x8).f0) ≥ 16 then (impl_isRegion.j1 k x0 x8 x6 x7 x8 true ((rd_T118 x6 x8).f0) ((rd_T118 x6 x8).f1) ((rd_T118 x6 x8).f2)) else (if ((rd_T118 x6 x8).f1) < 0 then (impl_isRegion.j1 k x0 x8 x6 x7 x8 true ((rd_T118 x6 x8).f0) ((rd_T118 x6 x8).f1) ((rd_T118 x6 x8).f2)) else (if ((rd_T118 x6 x8).f2) ≤ ((rd_T118 x6 x8).f1) then (impl_isRegion.j1 k x0 x8 x6 x7 x8 true ((rd_T118 x6 x8).f0) ((rd_T118 x6 x8).f1) ((rd_T118 x6 x8).f2)) else (impl_isRegion.j1 k x0 x8 x6 x7 x8 (decide (((rd_T118 x6 x8).f2) > 16)) ((rd_T118 x6 x8).f0) ((rd_T118 x6 x8).f1) ((rd_T118 x6 x8).f2)))))) else (none)) else (none)) else (some true)
def impl_isRegion.j1 : Nat → List (S118) → Int → List (S118) → Int → Int → Bool → Int → Int → Int → Option (Bool)
  | 0, _, _, _, _, _, _, _, _, _ => none
  | k + 1, x0, x3, x6, x7, x8, x37, x100003000, x100003001, x100003002 => if x37 = true then (some false) else (if x3 = 0 then (impl_isRegion.l0 k x0 x6 x7 (wrap64 (x8 + 1))) else (if 0 ≤ (wrap64 (x3 - 1)) then (if (wrap64 (x3 - 1)) < (x0.length : Int) then (if x100003000 < ((rd_T118 x0 (wrap64 (x3 - 1))).f0) then (some false) else (if x100003000 = ((rd_T118 x0 (wrap64 (x3 - 1))).f0) then (if x100003001 ≤ ((rd_T118 x0 (wrap64 (x3 - 1))).f2) then (some false) else (impl_isRegion.l0 k x0 x6 x7 (wrap64 (x8 + 1)))) else (impl_isRegion.l0 k x0 x6 x7 (wrap64 (x8 + 1))))) else (none)) else (none)))
end
def impl_isRegion.f (k : Nat) (l0 : List (S118)) : Option (Bool) := impl_isRegion.l0 k l0 l0 (l0.length : Int) 0
theorem impl_isRegion.mono_l : ∀ k, (∀ y0 y1 y2 y3, LeO (impl_isRegion.l0 k y0 y1 y2 y3) (impl_isRegion.l0 (k + 1) y0 y1 y2 y3)) ∧ (∀ y0 y1 y2 y3 y4 y5 y6 y7 y8, LeO (impl_isRegion.j1 k y0 y1 y2 y3 y4 y5 y6 y7 y8) (impl_isRegion.j1 (k + 1) y0 y1 y2 y3 y4 y5 y6 y7 y8))
  | 0 => ⟨fun _ _ _ _ r h => by simp [impl_isRegion.l0] at h, fun _ _ _ _ _ _ _ _ _ r h => by simp [impl_isRegion.j1] at h⟩
  | k + 1 => by
    obtain ⟨ih0, ih1⟩ := impl_isRegion.mono_l k
    refine ⟨?_, ?_⟩
    · intro y0 y1 y2 y3
      unfold impl_isRegion.l0
      repeat' first
      | (with_reducible exact ih0 _ _ _ _)
      | (with_reducible exact ih1 _ _ _ _ _ _ _ _ _)
      | (with_reducible exact LeO.refl _)
      | (with_reducible exact LeO.none _)
      | (with_reducible refine LeO.ite ?_ ?_)
      | (with_reducible refine LeO.bind ?_ (fun _ => ?_))
      | exact ih0 _ _ _ _
      | exact ih1 _ _ _ _ _ _ _ _ _
      | exact LeO.none _
      | refine LeO.ite ?_ ?_
      | refine LeO.bind ?_ (fun _ => ?_)
    · intro y0 y1 y2 y3 y4 y5 y6 y7 y8
      unfold impl_isRegion.j1
      repeat' first
      | (with_reducible exact ih0 _ _ _ _)
      | (with_reducible exact ih1 _ _ _ _ _ _ _ _ _)
      | (with_reducible exact LeO.refl _)
      | (with_reducible exact LeO.none _)
      | (with_reducible refine LeO.ite ?_ ?_)
      | (with_reducible refine LeO.bind ?_ (fun _ => ?_))
      | exact ih0 _ _ _ _
      | exact ih1 _ _ _ _ _ _ _ _ _
      | exact LeO.none _
      | refine LeO.ite ?_ ?_
      | refine LeO.bind ?_ (fun _ => ?_)
theorem impl_isRegion.mono : ∀ a0 k, LeO (impl_isRegion.f k a0) (impl_isRegion.f (k + 1) a0) := by
  intro a0 k
  obtain ⟨ih0, ih1⟩ := impl_isRegion.mono_l k
  unfold impl_isRegion.f
  repeat' first
      | (with_reducible exact ih0 _ _ _ _)
      | (with_reducible exact ih1 _ _ _ _ _ _ _ _ _)
      | (with_reducible exact LeO.refl _)
      | (with_reducible exact LeO.none _)
      | (with_reducible refine LeO.ite ?_ ?_)
      | (with_reducible refine LeO.bind ?_ (fun _ => ?_))
      | exact ih0 _ _ _ _
      | exact ih1 _ _ _ _ _ _ _ _ _
      | exact LeO.none _
      | refine LeO.ite ?_ ?_
      | refine LeO.bind ?_ (fun _ => ?_)
set_option maxHeartbeats 8000000 in
set_option maxRecDepth 100000 in
theorem impl_isRegion.calls (k : Nat) (A0 : Option Addr) (c0 : Nat) (l0 : List (S118)) (r : Bool) (w : World) (hr0 : Kd.C k118 w A0 l0.length l0) (hc0 : l0.length ≤ c0) (h : impl_isRegion.f k l0 = some r) :
    Calls Try.prog 99 #[.slice A0 l0.length c0] w fun e w' => e = .returned (.bool r) ∧ Below w.heap.size w w' := by
  have hu118 := Try.underlying118
  have HR0 := Aside0.mk hr0
  have HC0 := Aside0.mk hc0
  clear hr0 hc0
  have HB := Aside0.mk (Below.refl w.heap.size w)
  have H : (impl_isRegion.l0 k l0 l0 (l0.length : Int) 0) = some r := h
  clear h
  have H' := Aside0.mk H
  clear H
  go_enter Try.func99, Try.ntmps99
  go_wp2
  go_loopg [8] k (fun kq v8 w' => ∃ (x8_1 : Int), v8 = .int .i64 x8_1 ∧ Aside0 (impl_isRegion.l0 kq l0 l0 (l0.length : Int) x8_1 = some r) ∧ Aside0 (kq ≤ k) ∧ Aside0 (Below w.heap.size w w'))
  case atStart => exact ⟨(0), (by first | rfl | (simp; done) | (simp [*]; done)), H', ⟨Nat.le_refl _⟩, ⟨by repeat (first | (with_reducible first | exact HB.out | apply below_alloc | apply pw_below_drewN | apply below_drew1) | exact HB.out)⟩⟩
  case round =>
    clear H'
    obtain ⟨x8_1, rfl, HA, HK1, HB⟩ := hrel
    cases gk with
    | zero => exact absurd HA.out (by simp [impl_isRegion.l0])
    | succ k1 =>
      have H := HA.out
      clear HA
      simp only [impl_isRegion.l0] at H
      by_cases c2 : x8_1 < (l0.length : Int)
      · rw [if_pos c2] at H
        have c2b0 : decide (x8_1 < (l0.length : Int)) = true := decide_eq_true c2
        clear c2
        by_cases c3 : 0 ≤ x8_1
        · rw [if_pos c3] at H
          have c3b0 : decide (0 ≤ x8_1) = true := decide_eq_true c3
          clear c3
          by_cases c4 : x8_1 < (l0.length : Int)
          · rw [if_pos c4] at H
            have c4b0 : decide (x8_1 < (l0.length : Int)) = true := decide_eq_true c4
            clear c4
            have HC5 := Aside0.mk H
            clear H
            have p100001 : 0 ≤ (x8_1 : Int) := of_decide_eq_true (by first | (with_reducible assumption) | assumption)
            have q100001 : x8_1 < (l0.length : Int) := of_decide_eq_true (by first | (with_reducible assumption) | assumption)
            obtain ⟨ad100001, e100001, hx100001_0, hx100001_1, hx100001_2⟩ := at_T118 HR0.out x8_1 p100001 q100001
            cases e100001
            replace hx100001_0 := (HB.out.cell (World.block_lt_of_cell? w _ hx100001_0)).trans hx100001_0
            replace hx100001_1 := (HB.out.cell (World.block_lt_of_cell? w _ hx100001_1)).trans hx100001_1
            replace hx100001_2 := (HB.out.cell (World.block_lt_of_cell? w _ hx100001_2)).trans hx100001_2
            replace p100001 := eq_true p100001
            replace q100001 := eq_true q100001
            go_upto_region 4 with (first | ((with_reducible refine gate_dst (N := 4) rfl ?_); refine box_event ?hg (N := 4) ?hd (cs := #[.int .i64 0, .int .i64 0, .int .i64 0]) (t := 118) ?hr ?_; (case hd => rfl); (case hg => rfl); (case hr => first | (go_simp; done) | (go_simp; rfl)); intro gb100002 hg w6 hbox hb; have n0_ := Aside0.mk (below_step (by repeat (first | (with_reducible first | exact HB.out | apply below_alloc | apply pw_below_drewN | apply below_drew1) | exact HB.out)) hb); have n1_ := Aside0.mk (hbox); have n2_ := Aside0.mk ((by rw [hg]; exact (below_size (by repeat (first | (with_reducible first | exact HB.out | apply below_alloc | apply pw_below_drewN | apply below_drew1) | exact HB.out))) : w.heap.size ≤ gb100002)); have n3_ := Aside0.mk ((by rw [hg]; exact (below_size (by repeat (first | (with_reducible first | exact HB.out | apply below_alloc | apply pw_below_drewN | apply below_drew1) | exact HB.out))) : w.heap.size ≤ gb100002)); clear HB; have HB := n0_; have BK100002 := n1_; have GW100002 := n2_; have GE100002 := n3_; clear n0_ n1_ n2_ n3_; clear hb hbox hg; have hcz7_0 : w6.cell? ⟨gb100002, 0, none⟩ = some (.int .i64 0) := (blk_cell BK100002.out 0).trans rfl; have hcz7_1 : w6.cell? ⟨gb100002, 1, none⟩ = some (.int .i64 0) := (blk_cell BK100002.out 1).trans rfl; have hcz7_2 : w6.cell? ⟨gb100002, 2, none⟩ = some (.int .i64 0) := (blk_cell BK100002.out 2).trans rfl; have hfz7_0 := blk_frozen BK100002.out 0; have hfz7_1 := blk_frozen BK100002.out 1; have hfz7_2 := blk_frozen BK100002.out 2))
            (try simp only [Act.put, List.setIfInBounds_toArray, List.set_cons_zero, List.set_cons_succ])
            go_cut [37] (fun v37 wc => ∃ (kq : Nat) (x37_4 : Bool), v37 = .bool x37_4 ∧ Aside0 (impl_isRegion.j1 kq l0 x8_1 l0 (l0.length : Int) x8_1 x37_4 ((rd_T118 l0 x8_1).f0) ((rd_T118 l0 x8_1).f1) ((rd_T118 l0 x8_1).f2) = some r) ∧ Aside0 (kq ≤ k1) ∧ Aside0 (wc.heap[gb100002]? = some (.cells #[.int .i64 ((rd_T118 l0 x8_1).f0), .int .i64 ((rd_T118 l0 x8_1).f1), .int .i64 ((rd_T118 l0 x8_1).f2)] 118 (0, 0))) ∧ Aside0 (Below w.heap.size w wc))
            case first =>
              have H := HC5.out
              clear HC5
              by_cases c8 : ((rd_T118 l0 x8_1).f0) < 0
              · rw [if_pos c8] at H
                have c8b0 : decide (((rd_T118 l0 x8_1).f0) < 0) = true := decide_eq_true c8
                clear c8
                (first | rw [c8b0] | (simp only [i64_w, i32_w]; rw [c8b0]) | skip)
                have H' := Aside0.mk H
                clear H
                have hcz9_0 : w6.cell? ⟨gb100002, 0, none⟩ = some (.int .i64 0) := (blk_cell BK100002.out 0).trans rfl
                have hcz9_1 : w6.cell? ⟨gb100002, 1, none⟩ = some (.int .i64 0) := (blk_cell BK100002.out 1).trans rfl
                have hcz9_2 : w6.cell? ⟨gb100002, 2, none⟩ = some (.int .i64 0) := (blk_cell BK100002.out 2).trans rfl
                have hfz9_0 := blk_frozen BK100002.out 0
                have hfz9_1 := blk_frozen BK100002.out 1
                have hfz9_2 := blk_frozen BK100002.out 2
                go_wp2
                go_meet
                case rel => exact ⟨_, (true), (by first | rfl | (simp; done) | (simp [*]; done)), H', ⟨by have := HK1.out; first | omega | exact Nat.le_refl _⟩, ⟨by (with_reducible repeat (first | refine blk_drewN ?_ _ | refine blk_drew ?_ | refine blk_alloc ?_ _)); refine blk_put (cs := #[.int .i64 ((rd_T118 l0 x8_1).f0), .int .i64 ((rd_T118 l0 x8_1).f1), .int .i64 0]) ?_ 2 _ rfl; (with_reducible repeat (first | refine blk_drewN ?_ _ | refine blk_drew ?_ | refine blk_alloc ?_ _)); refine blk_put (cs := #[.int .i64 ((rd_T118 l0 x8_1).f0), .int .i64 0, .int .i64 0]) ?_ 1 _ rfl; (with_reducible repeat (first | refine blk_drewN ?_ _ | refine blk_drew ?_ | refine blk_alloc ?_ _)); refine blk_put (cs := #[.int .i64 0, .int .i64 0, .int .i64 0]) ?_ 0 _ rfl; (with_reducible repeat (first | refine blk_drewN ?_ _ | refine blk_drew ?_ | refine blk_alloc ?_ _)); exact BK100002.out⟩, ⟨by repeat (first | (with_reducible first | exact HB.out | apply below_alloc | apply pw_below_drewN | apply below_drew1 | refine below_set ?_ GE100002.out) | exact HB.out)⟩⟩
              · rw [if_neg c8] at H
                have c8b0 : decide (((rd_T118 l0 x8_1).f0) < 0) = false := decide_eq_false c8
                clear c8
                (first | rw [c8b0] | (simp only [i64_w, i32_w]; rw [c8b0]) | skip)
                by_cases c10 : ((rd_T118 l0 x8_1).f0) ≥ 16
                · rw [if_pos c10] at H
                  have c10b0 : decide (16 ≤ ((rd_T118 l0 x8_1).f0)) = true := decide_eq_true c10
                  clear c10
                  have H' := Aside0.mk H
                  clear H
                  have hcz11_0 : w6.cell? ⟨gb100002, 0, none⟩ = some (.int .i64 0) := (blk_cell BK100002.out 0).trans rfl
                  have hcz11_1 : w6.cell? ⟨gb100002, 1, none⟩ = some (.int .i64 0) := (blk_cell BK100002.out 1).trans rfl
                  have hcz11_2 : w6.cell? ⟨gb100002, 2, none⟩ = some (.int .i64 0) := (blk_cell BK100002.out 2).trans rfl
                  have hfz11_0 := blk_frozen BK100002.out 0
                  have hfz11_1 := blk_frozen BK100002.out 1
                  have hfz11_2 := blk_frozen BK100002.out 2
                  go_wp2
                  go_meet
                  case rel => exact ⟨_, (true), (by first | rfl | (simp; done) | (simp [*]; done)), H', ⟨by have := HK1.out; first | omega | exact Nat.le_refl _⟩, ⟨by (with_reducible repeat (first | refine blk_drewN ?_ _ | refine blk_drew ?_ | refine blk_alloc ?_ _)); refine blk_put (cs := #[.int .i64 ((rd_T118 l0 x8_1).f0), .int .i64 ((rd_T118 l0 x8_1).f1), .int .i64 0]) ?_ 2 _ rfl; (with_reducible repeat (first | refine blk_drewN ?_ _ | refine blk_drew ?_ | refine blk_alloc ?_ _)); refine blk_put (cs := #[.int .i64 ((rd_T118 l0 x8_1).f0), .int .i64 0, .int .i64 0]) ?_ 1 _ rfl; (with_reducible repeat (first | refine blk_drewN ?_ _ | refine blk_drew ?_ | refine blk_alloc ?_ _)); refine blk_put (cs := #[.int .i64 0, .int .i64 0, .int .i64 0]) ?_ 0 _ rfl; (with_reducible repeat (first | refine blk_drewN ?_ _ | refine blk_drew ?_ | refine blk_alloc ?_ _)); exact BK100002.out⟩, ⟨by repeat (first | (with_reducible first | exact HB.out | apply below_alloc | apply pw_below_drewN | apply below_drew1 | refine below_set ?_ GE100002.out) | exact HB.out)⟩⟩
                · rw [if_neg c10] at H
                  have c10b0 : decide (16 ≤ ((rd_T118 l0 x8_1).f0)) = false := decide_eq_false c10
                  clear c10
                  by_cases c12 : ((rd_T118 l0 x8_1).f1) < 0
                  · rw [if_pos c12] at H
                    have c12b0 : decide (((rd_T118 l0 x8_1).f1) < 0) = true := decide_eq_true c12
                    clear c12
                    have H' := Aside0.mk H
                    clear H
                    have hcz13_0 : w6.cell? ⟨gb100002, 0, none⟩ = some (.int .i64 0) := (blk_cell BK100002.out 0).trans rfl
                    have hcz13_1 : w6.cell? ⟨gb100002, 1, none⟩ = some (.int .i64 0) := (blk_cell BK100002.out 1).trans rfl
                    have hcz13_2 : w6.cell? ⟨gb100002, 2, none⟩ = some (.int .i64 0) := (blk_cell BK100002.out 2).trans rfl
                    have hfz13_0 := blk_frozen BK100002.out 0
                    have hfz13_1 := blk_frozen BK100002.out 1
                    have hfz13_2 := blk_frozen BK100002.out 2
                    go_wp2
                    go_meet
                    case rel => exact ⟨_, (true), (by first | rfl | (simp; done) | (simp [*]; done)), H', ⟨by have := HK1.out; first | omega | exact Nat.le_refl _⟩, ⟨by (with_reducible repeat (first | refine blk_drewN ?_ _ | refine blk_drew ?_ | refine blk_alloc ?_ _)); refine blk_put (cs := #[.int .i64 ((rd_T118 l0 x8_1).f0), .int .i64 ((rd_T118 l0 x8_1).f1), .int .i64 0]) ?_ 2 _ rfl; (with_reducible repeat (first | refine blk_drewN ?_ _ | refine blk_drew ?_ | refine blk_alloc ?_ _)); refine blk_put (cs := #[.int .i64 ((rd_T118 l0 x8_1).f0), .int .i64 0, .int .i64 0]) ?_ 1 _ rfl; (with_reducible repeat (first | refine blk_drewN ?_ _ | refine blk_drew ?_ | refine blk_alloc ?_ _)); refine blk_put (cs := #[.int .i64 0, .int .i64 0, .int .i64 0]) ?_ 0 _ rfl; (with_reducible repeat (first | refine blk_drewN ?_ _ | refine blk_drew ?_ | refine blk_alloc ?_ _)); exact BK100002.out⟩, ⟨by repeat (first | (with_reducible first | exact HB.out | apply below_alloc | apply pw_below_drewN | apply below_drew1 | refine below_set ?_ GE100002.out) | exact HB.out)⟩⟩
                  · rw [if_neg c12] at H
                    have c12b0 : decide (((rd_T118 l0 x8_1).f1) < 0) = false := decide_eq_false c12
                    clear c12
                    by_cases c14 : ((rd_T118 l0 x8_1).f2) ≤ ((rd_T118 l0 x8_1).f1)
                    · rw [if_pos c14] at H
                      have c14b0 : decide (((rd_T118 l0 x8_1).f2) ≤ ((rd_T118 l0 x8_1).f1)) = true := decide_eq_true c14
                      clear c14
                      have H' := Aside0.mk H
                      clear H
                      have hcz15_0 : w6.cell? ⟨gb100002, 0, none⟩ = some (.int .i64 0) := (blk_cell BK100002.out 0).trans rfl
                      have hcz15_1 : w6.cell? ⟨gb100002, 1, none⟩ = some (.int .i64 0) := (blk_cell BK100002.out 1).trans rfl
                      have hcz15_2 : w6.cell? ⟨gb100002, 2, none⟩ = some (.int .i64 0) := (blk_cell BK100002.out 2).trans rfl
                      have hfz15_0 := blk_frozen BK100002.out 0
                      have hfz15_1 := blk_frozen BK100002.out 1
                      have hfz15_2 := blk_frozen BK100002.out 2
                      go_wp2
                      go_meet
                      case rel => exact ⟨_, (true), (by first | rfl | (simp; done) | (simp [*]; done)), H', ⟨by have := HK1.out; first | omega | exact Nat.le_refl _⟩, ⟨by (with_reducible repeat (first | refine blk_drewN ?_ _ | refine blk_drew ?_ | refine blk_alloc ?_ _)); refine blk_put (cs := #[.int .i64 ((rd_T118 l0 x8_1).f0), .int .i64 ((rd_T118 l0 x8_1).f1), .int .i64 0]) ?_ 2 _ rfl; (with_reducible repeat (first | refine blk_drewN ?_ _ | refine blk_drew ?_ | refine blk_alloc ?_ _)); refine blk_put (cs := #[.int .i64 ((rd_T118 l0 x8_1).f0), .int .i64 0, .int .i64 0]) ?_ 1 _ rfl; (with_reducible repeat (first | refine blk_drewN ?_ _ | refine blk_drew ?_ | refine blk_alloc ?_ _)); refine blk_put (cs := #[.int .i64 0, .int .i64 0, .int .i64 0]) ?_ 0 _ rfl; (with_reducible repeat (first | refine blk_drewN ?_ _ | refine blk_drew ?_ | refine blk_alloc ?_ _)); exact BK100002.out⟩, ⟨by repeat (first | (with_reducible first | exact HB.out | apply below_alloc | apply pw_below_drewN | apply below_drew1 | refine below_set ?_ GE100002.out) | exact HB.out)⟩⟩
                    · rw [if_neg c14] at H
                      have c14b0 : decide (((rd_T118 l0 x8_1).f2) ≤ ((rd_T118 l0 x8_1).f1)) = false := decide_eq_false c14
                      clear c14
                      have H' := Aside0.mk H
                      clear H
                      have hcz16_0 : w6.cell? ⟨gb100002, 0, none⟩ = some (.int .i64 0) := (blk_cell BK100002.out 0).trans rfl
                      have hcz16_1 : w6.cell? ⟨gb100002, 1, none⟩ = some (.int .i64 0) := (blk_cell BK100002.out 1).trans rfl
                      have hcz16_2 : w6.cell? ⟨gb100002, 2, none⟩ = some (.int .i64 0) := (blk_cell BK100002.out 2).trans rfl
                      have hfz16_0 := blk_frozen BK100002.out 0
                      have hfz16_1 := blk_frozen BK100002.out 1
                      have hfz16_2 := blk_frozen BK100002.out 2
                      go_wp2
                      go_meet
                      case rel => exact ⟨_, (decide (((rd_T118 l0 x8_1).f2) > 16)), (by first | rfl | (simp; done) | (simp [*]; done)), H', ⟨by have := HK1.out; first | omega | exact Nat.le_refl _⟩, ⟨by (with_reducible repeat (first | refine blk_drewN ?_ _ | refine blk_drew ?_ | refine blk_alloc ?_ _)); refine blk_put (cs := #[.int .i64 ((rd_T118 l0 x8_1).f0), .int .i64 ((rd_T118 l0 x8_1).f1), .int .i64 0]) ?_ 2 _ rfl; (with_reducible repeat (first | refine blk_drewN ?_ _ | refine blk_drew ?_ | refine blk_alloc ?_ _)); refine blk_put (cs := #[.int .i64 ((rd_T118 l0 x8_1).f0), .int .i64 0, .int .i64 0]) ?_ 1 _ rfl; (with_reducible repeat (first | refine blk_drewN ?_ _ | refine blk_drew ?_ | refine blk_alloc ?_ _)); refine blk_put (cs := #[.int .i64 0, .int .i64 0, .int .i64 0]) ?_ 0 _ rfl; (with_reducible repeat (first | refine blk_drewN ?_ _ | refine blk_drew ?_ | refine blk_alloc ?_ _)); exact BK100002.out⟩, ⟨by repeat (first | (with_reducible first | exact HB.out | apply below_alloc | apply pw_below_drewN | apply below_drew1 | refine below_set ?_ GE100002.out) | exact HB.out)⟩⟩
            case rest =>
              clear HC5
              try clear c1
              try clear p1
              try clear q1
              try clear hx1
              try clear c2
              try clear c2b0
              try clear p2
              try clear c3
              try clear c3b0
              try clear c4
              try clear c4b0
              try clear c8
              try clear c8b0
              try clear c9
              try clear c10
              try clear c10b0
              try clear p10
              try clear q10
              try clear hx10
              try clear c12
              try clear c12b0
              try clear c14
              try clear c14b0
              try clear hcz11_0
              try clear hcz11_1
              try clear hcz11_2
              try clear hcz13_0
              try clear hcz13_1
              try clear hcz13_2
              try clear hcz15_0
              try clear hcz15_1
              try clear hcz15_2
              try clear hcz16_0
              try clear hcz16_1
              try clear hcz16_2
              try clear hcz7_0
              try clear hcz7_1
              try clear hcz7_2
              try clear hcz9_0
              try clear hcz9_1
              try clear hcz9_2
              try clear hfz11_0
              try clear hfz11_1
              try clear hfz11_2
              try clear hfz13_0
              try clear hfz13_1
              try clear hfz13_2
              try clear hfz15_0
              try clear hfz15_1
              try clear hfz15_2
              try clear hfz16_0
              try clear hfz16_1
              try clear hfz16_2
              try clear hfz7_0
              try clear hfz7_1
              try clear hfz7_2
              try clear hfz9_0
              try clear hfz9_1
              try clear hfz9_2
              try clear hx100001_0
              try clear hx100001_1
              try clear hx100001_2
              try clear p100001
              try clear q100001
              obtain ⟨kq, x37_4, rfl, HA, HJ4, BK100002, HB⟩ := hcut
              cases kq with
              | zero => exact absurd HA.out (by simp [impl_isRegion.j1])
              | succ kj4 =>
                have H := HA.out
                clear HA
                simp only [impl_isRegion.j1] at H
                by_cases c17 : x37_4 = true
                · subst c17
                  have H1 : (some false) = some r := by rw [if_pos rfl] at H; exact H
                  clear H
                  have H := H1
                  clear H1
                  obtain rfl := Option.some.inj H
                  go_wp2
                  go_ret
                  exact ⟨by first | rfl | (simp [errW_none, errW_some] <;> rfl) | (simp [*, errW_none, errW_some] <;> rfl), by repeat (first | (with_reducible first | exact HB.out | apply below_alloc | apply pw_below_drewN | apply below_drew1 | refine below_set ?_ GE100002.out) | exact HB.out)⟩
                · replace c17 := Bool.eq_false_iff.mpr c17
                  subst c17
                  have H1 : (if x8_1 = 0 then (impl_isRegion.l0 kj4 l0 l0 (l0.length : Int) (wrap64 (x8_1 + 1))) else (if 0 ≤ (wrap64 (x8_1 - 1)) then (if (wrap64 (x8_1 - 1)) < (l0.length : Int) then (if ((rd_T118 l0 x8_1).f0) < ((rd_T118 l0 (wrap64 (x8_1 - 1))).f0) then (some false) else (if ((rd_T118 l0 x8_1).f0) = ((rd_T118 l0 (wrap64 (x8_1 - 1))).f0) then (if ((rd_T118 l0 x8_1).f1) ≤ ((rd_T118 l0 (wrap64 (x8_1 - 1))).f2) then (some false) else (impl_isRegion.l0 kj4 l0 l0 (l0.length : Int) (wrap64 (x8_1 + 1)))) else (impl_isRegion.l0 kj4 l0 l0 (l0.length : Int) (wrap64 (x8_1 + 1))))) else (none)) else (none))) = some r := by rw [if_neg (show ¬ (false = true) by decide)] at H; exact H
                  clear H
                  have H := H1
                  clear H1
                  by_cases c18 : x8_1 = 0
                  · rw [if_pos c18] at H
                    have c18b0 : (x8_1 == 0) = true := beq_iff_eq.mpr c18
                    have c18b1 : (x8_1 != 0) = false := bne_eq_false_iff_eq.mpr c18
                    clear c18
                    have H' := Aside0.mk H
                    clear H
                    go_wp2
                    go_roundg kj4
                    case measure => have := HK1.out; have := HJ4.out; omega
                    case rel => exact ⟨(wrap64 (x8_1 + 1)), (by first | rfl | (simp; done) | (simp [*]; done)), H', ⟨by have := HK1.out; have := HJ4.out; omega⟩, ⟨by repeat (first | (with_reducible first | exact HB.out | apply below_alloc | apply pw_below_drewN | apply below_drew1 | refine below_set ?_ GE100002.out) | exact HB.out)⟩⟩
                  · rw [if_neg c18] at H
                    have c18b0 : (x8_1 == 0) = false := beq_eq_false_iff_ne.mpr c18
                    have c18b1 : (x8_1 != 0) = true := bne_iff_ne.mpr c18
                    obtain ⟨ji19, hji19⟩ : ∃ j_ : Int, (wrap64 (x8_1 - 1)) = j_ := ⟨_, rfl⟩
                    replace H : (if 0 ≤ (ji19) then (if (ji19) < (l0.length : Int) then (if ((rd_T118 l0 x8_1).f0) < ((rd_T118 l0 (ji19)).f0) then (some false) else (if ((rd_T118 l0 x8_1).f0) = ((rd_T118 l0 (ji19)).f0) then (if ((rd_T118 l0 x8_1).f1) ≤ ((rd_T118 l0 (ji19)).f2) then (some false) else (impl_isRegion.l0 kj4 l0 l0 (l0.length : Int) (wrap64 (x8_1 + 1)))) else (impl_isRegion.l0 kj4 l0 l0 (l0.length : Int) (wrap64 (x8_1 + 1))))) else (none)) else (none)) = some r := by first | (rw [hji19] at H; exact H) | (simp only [hji19] at H ⊢; exact H)
                    have hji19w : (IntKind.i64.wrap (x8_1 - 1)) = ji19 := (i64_w _).trans hji19
                    by_cases c20 : 0 ≤ (ji19)
                    · rw [if_pos c20] at H
                      have c20b0 : decide (0 ≤ (ji19)) = true := decide_eq_true c20
                      clear c20
                      by_cases c21 : (ji19) < (l0.length : Int)
                      · rw [if_pos c21] at H
                        have c21b0 : decide ((ji19) < (l0.length : Int)) = true := decide_eq_true c21
                        clear c21
                        by_cases c22 : ((rd_T118 l0 x8_1).f0) < ((rd_T118 l0 (ji19)).f0)
                        · rw [if_pos c22] at H
                          have c22b0 : decide (((rd_T118 l0 x8_1).f0) < ((rd_T118 l0 (ji19)).f0)) = true := decide_eq_true c22
                          clear c22
                          obtain rfl := Option.some.inj H
                          have p100003 : 0 ≤ ((ji19) : Int) := of_decide_eq_true (by first | (with_reducible assumption) | assumption)
                          have q100003 : (ji19) < (l0.length : Int) := of_decide_eq_true (by first | (with_reducible assumption) | assumption)
                          obtain ⟨ad100003, e100003, hx100003_0, hx100003_1, hx100003_2⟩ := at_T118 HR0.out (ji19) p100003 q100003
                          obtain rfl : ad100001 = ad100003 := (by injection e100003)
                          replace hx100003_0 := (HB.out.cell (World.block_lt_of_cell? w _ hx100003_0)).trans hx100003_0
                          replace hx100003_1 := (HB.out.cell (World.block_lt_of_cell? w _ hx100003_1)).trans hx100003_1
                          replace hx100003_2 := (HB.out.cell (World.block_lt_of_cell? w _ hx100003_2)).trans hx100003_2
                          replace p100003 := eq_true p100003
                          replace q100003 := eq_true q100003
                          go_wp2_with (first | ((with_reducible refine gate_dst (N := 5) rfl ?_); refine box_event ?hg (N := 5) ?hd (cs := #[.int .i64 0, .int .i64 0, .int .i64 0]) (t := 118) ?hr ?_; (case hd => rfl); (case hg => rfl); (case hr => first | (go_simp; done) | (go_simp; rfl)); intro gb100004 hg w23 hbox hb; have n0_ := Aside0.mk (blk_below (g := gb100002) (o := .cells #[.int .i64 ((rd_T118 l0 x8_1).f0), .int .i64 ((rd_T118 l0 x8_1).f1), .int .i64 ((rd_T118 l0 x8_1).f2)] 118 (0, 0)) (by (with_reducible repeat (first | refine blk_drewN ?_ _ | refine blk_drew ?_ | refine blk_alloc ?_ _)); exact BK100002.out) hb); have n1_ := Aside0.mk (below_step (by repeat (first | (with_reducible first | exact HB.out | apply below_alloc | apply pw_below_drewN | apply below_drew1 | refine below_set ?_ GE100002.out) | exact HB.out)) hb); have n2_ := Aside0.mk (hbox); have n3_ := Aside0.mk ((by rw [hg]; exact (below_size (by repeat (first | (with_reducible first | exact HB.out | apply below_alloc | apply pw_below_drewN | apply below_drew1 | refine below_set ?_ GE100002.out) | exact HB.out))) : w.heap.size ≤ gb100004)); have n4_ := Aside0.mk ((by rw [hg]; exact (below_size (by repeat (first | (with_reducible first | exact HB.out | apply below_alloc | apply pw_below_drewN | apply below_drew1 | refine below_set ?_ GE100002.out) | exact HB.out))) : w.heap.size ≤ gb100004)); have n5_ := Aside0.mk ((by rw [hg]; exact Nat.ne_of_lt (blk_lt (g := gb100002) (o := .cells #[.int .i64 ((rd_T118 l0 x8_1).f0), .int .i64 ((rd_T118 l0 x8_1).f1), .int .i64 ((rd_T118 l0 x8_1).f2)] 118 (0, 0)) (by (with_reducible repeat (first | refine blk_drewN ?_ _ | refine blk_drew ?_ | refine blk_alloc ?_ _)); exact BK100002.out)) : gb100002 ≠ gb100004)); have n6_ := Aside0.mk ((by rw [hg]; exact Nat.ne_of_gt (blk_lt (g := gb100002) (o := .cells #[.int .i64 ((rd_T118 l0 x8_1).f0), .int .i64 ((rd_T118 l0 x8_1).f1), .int .i64 ((rd_T118 l0 x8_1).f2)] 118 (0, 0)) (by (with_reducible repeat (first | refine blk_drewN ?_ _ | refine blk_drew ?_ | refine blk_alloc ?_ _)); exact BK100002.out)) : gb100004 ≠ gb100002)); clear BK100002; clear HB; have BK100002 := n0_; have HB := n1_; have BK100004 := n2_; have GW100004 := n3_; have GE100004 := n4_; have NB100002_100004 := n5_; have NB100004_100002 := n6_; clear n0_ n1_ n2_ n3_ n4_ n5_ n6_; clear hb hbox hg; have hnb24 := NB100004_100002.out; have hnc24 := NB100002_100004.out; have hcz25_0 : w23.cell? ⟨gb100004, 0, none⟩ = some (.int .i64 0) := (blk_cell BK100004.out 0).trans rfl; have hcz25_1 : w23.cell? ⟨gb100004, 1, none⟩ = some (.int .i64 0) := (blk_cell BK100004.out 1).trans rfl; have hcz25_2 : w23.cell? ⟨gb100004, 2, none⟩ = some (.int .i64 0) := (blk_cell BK100004.out 2).trans rfl; have hfz25_0 := blk_frozen BK100004.out 0; have hfz25_1 := blk_frozen BK100004.out 1; have hfz25_2 := blk_frozen BK100004.out 2; have hcz26_0 : w23.cell? ⟨gb100002, 0, none⟩ = some (.int .i64 ((rd_T118 l0 x8_1).f0)) := (blk_cell BK100002.out 0).trans rfl; have hcz26_1 : w23.cell? ⟨gb100002, 1, none⟩ = some (.int .i64 ((rd_T118 l0 x8_1).f1)) := (blk_cell BK100002.out 1).trans rfl; have hcz26_2 : w23.cell? ⟨gb100002, 2, none⟩ = some (.int .i64 ((rd_T118 l0 x8_1).f2)) := (blk_cell BK100002.out 2).trans rfl; have hfz26_0 := blk_frozen BK100002.out 0; have hfz26_1 := blk_frozen BK100002.out 1; have hfz26_2 := blk_frozen BK100002.out 2))
                          go_ret
                          exact ⟨by first | rfl | (simp [errW_none, errW_some] <;> rfl) | (simp only [← hji19]; first | rfl | (simp [errW_none, errW_some] <;> rfl)) | (simp [*, errW_none, errW_some] <;> rfl), by repeat (first | (with_reducible first | exact HB.out | apply below_alloc | apply pw_below_drewN | apply below_drew1 | refine below_set ?_ GE100002.out | refine below_set ?_ GE100004.out) | exact HB.out)⟩
                        · rw [if_neg c22] at H
                          have c22b0 : decide (((rd_T118 l0 x8_1).f0) < ((rd_T118 l0 (ji19)).f0)) = false := decide_eq_false c22
                          clear c22
                          by_cases c27 : ((rd_T118 l0 x8_1).f0) = ((rd_T118 l0 (ji19)).f0)
                          · rw [if_pos c27] at H
                            have c27b0 : (((rd_T118 l0 x8_1).f0) == ((rd_T118 l0 (ji19)).f0)) = true := beq_iff_eq.mpr c27
                            have c27b1 : (((rd_T118 l0 x8_1).f0) != ((rd_T118 l0 (ji19)).f0)) = false := bne_eq_false_iff_eq.mpr c27
                            clear c27
                            by_cases c28 : ((rd_T118 l0 x8_1).f1) ≤ ((rd_T118 l0 (ji19)).f2)
                            · rw [if_pos c28] at H
                              have c28b0 : decide (((rd_T118 l0 x8_1).f1) ≤ ((rd_T118 l0 (ji19)).f2)) = true := decide_eq_true c28
                              clear c28
                              obtain rfl := Option.some.inj H
                              have p100003 : 0 ≤ ((ji19) : Int) := of_decide_eq_true (by first | (with_reducible assumption) | assumption)
                              have q100003 : (ji19) < (l0.length : Int) := of_decide_eq_true (by first | (with_reducible assumption) | assumption)
                              obtain ⟨ad100003, e100003, hx100003_0, hx100003_1, hx100003_2⟩ := at_T118 HR0.out (ji19) p100003 q100003
                              obtain rfl : ad100001 = ad100003 := (by injection e100003)
                              replace hx100003_0 := (HB.out.cell (World.block_lt_of_cell? w _ hx100003_0)).trans hx100003_0
                              replace hx100003_1 := (HB.out.cell (World.block_lt_of_cell? w _ hx100003_1)).trans hx100003_1
                              replace hx100003_2 := (HB.out.cell (World.block_lt_of_cell? w _ hx100003_2)).trans hx100003_2
                              replace p100003 := eq_true p100003
                              replace q100003 := eq_true q100003
                              go_wp2_with (first | ((with_reducible refine gate_dst (N := 5) rfl ?_); refine box_event ?hg (N := 5) ?hd (cs := #[.int .i64 0, .int .i64 0, .int .i64 0]) (t := 118) ?hr ?_; (case hd => rfl); (case hg => rfl); (case hr => first | (go_simp; done) | (go_simp; rfl)); intro gb100004 hg w29 hbox hb; have n0_ := Aside0.mk (blk_below (g := gb100002) (o := .cells #[.int .i64 ((rd_T118 l0 x8_1).f0), .int .i64 ((rd_T118 l0 x8_1).f1), .int .i64 ((rd_T118 l0 x8_1).f2)] 118 (0, 0)) (by (with_reducible repeat (first | refine blk_drewN ?_ _ | refine blk_drew ?_ | refine blk_alloc ?_ _)); exact BK100002.out) hb); have n1_ := Aside0.mk (below_step (by repeat (first | (with_reducible first | exact HB.out | apply below_alloc | apply pw_below_drewN | apply below_drew1 | refine below_set ?_ GE100002.out) | exact HB.out)) hb); have n2_ := Aside0.mk (hbox); have n3_ := Aside0.mk ((by rw [hg]; exact (below_size (by repeat (first | (with_reducible first | exact HB.out | apply below_alloc | apply pw_below_drewN | apply below_drew1 | refine below_set ?_ GE100002.out) | exact HB.out))) : w.heap.size ≤ gb100004)); have n4_ := Aside0.mk ((by rw [hg]; exact (below_size (by repeat (first | (with_reducible first | exact HB.out | apply below_alloc | apply pw_below_drewN | apply below_drew1 | refine below_set ?_ GE100002.out) | exact HB.out))) : w.heap.size ≤ gb100004)); have n5_ := Aside0.mk ((by rw [hg]; exact Nat.ne_of_lt (blk_lt (g := gb100002) (o := .cells #[.int .i64 ((rd_T118 l0 x8_1).f0), .int .i64 ((rd_T118 l0 x8_1).f1), .int .i64 ((rd_T118 l0 x8_1).f2)] 118 (0, 0)) (by (with_reducible repeat (first | refine blk_drewN ?_ _ | refine blk_drew ?_ | refine blk_alloc ?_ _)); exact BK100002.out)) : gb100002 ≠ gb100004)); have n6_ := Aside0.mk ((by rw [hg]; exact Nat.ne_of_gt (blk_lt (g := gb100002) (o := .cells #[.int .i64 ((rd_T118 l0 x8_1).f0), .int .i64 ((rd_T118 l0 x8_1).f1), .int .i64 ((rd_T118 l0 x8_1).f2)] 118 (0, 0)) (by (with_reducible repeat (first | refine blk_drewN ?_ _ | refine blk_drew ?_ | refine blk_alloc ?_ _)); exact BK100002.out)) : gb100004 ≠ gb100002)); clear BK100002; clear HB; have BK100002 := n0_; have HB := n1_; have BK100004 := n2_; have GW100004 := n3_; have GE100004 := n4_; have NB100002_100004 := n5_; have NB100004_100002 := n6_; clear n0_ n1_ n2_ n3_ n4_ n5_ n6_; clear hb hbox hg; have hnb30 := NB100004_100002.out; have hnc30 := NB100002_100004.out; have hcz31_0 : w29.cell? ⟨gb100004, 0, none⟩ = some (.int .i64 0) := (blk_cell BK100004.out 0).trans rfl; have hcz31_1 : w29.cell? ⟨gb100004, 1, none⟩ = some (.int .i64 0) := (blk_cell BK100004.out 1).trans rfl; have hcz31_2 : w29.cell? ⟨gb100004, 2, none⟩ = some (.int .i64 0) := (blk_cell BK100004.out 2).trans rfl; have hfz31_0 := blk_frozen BK100004.out 0; have hfz31_1 := blk_frozen BK100004.out 1; have hfz31_2 := blk_frozen BK100004.out 2; have hcz32_0 : w29.cell? ⟨gb100002, 0, none⟩ = some (.int .i64 ((rd_T118 l0 x8_1).f0)) := (blk_cell BK100002.out 0).trans rfl; have hcz32_1 : w29.cell? ⟨gb100002, 1, none⟩ = some (.int .i64 ((rd_T118 l0 x8_1).f1)) := (blk_cell BK100002.out 1).trans rfl; have hcz32_2 : w29.cell? ⟨gb100002, 2, none⟩ = some (.int .i64 ((rd_T118 l0 x8_1).f2)) := (blk_cell BK100002.out 2).trans rfl; have hfz32_0 := blk_frozen BK100002.out 0; have hfz32_1 := blk_frozen BK100002.out 1; have hfz32_2 := blk_frozen BK100002.out 2))
                              go_ret
                              exact ⟨by first | rfl | (simp [errW_none, errW_some] <;> rfl) | (simp only [← hji19]; first | rfl | (simp [errW_none, errW_some] <;> rfl)) | (simp [*, errW_none, errW_some] <;> rfl), by repeat (first | (with_reducible first | exact HB.out | apply below_alloc | apply pw_below_drewN | apply below_drew1 | refine below_set ?_ GE100002.out | refine below_set ?_ GE100004.out) | exact HB.out)⟩
                            · rw [if_neg c28] at H
                              have c28b0 : decide (((rd_T118 l0 x8_1).f1) ≤ ((rd_T118 l0 (ji19)).f2)) = false := decide_eq_false c28
                              clear c28
                              have H' := Aside0.mk H
                              clear H
                              have p100003 : 0 ≤ ((ji19) : Int) := of_decide_eq_true (by first | (with_reducible assumption) | assumption)
                              have q100003 : (ji19) < (l0.length : Int) := of_decide_eq_true (by first | (with_reducible assumption) | assumption)
                              obtain ⟨ad100003, e100003, hx100003_0, hx100003_1, hx100003_2⟩ := at_T118 HR0.out (ji19) p100003 q100003
                              obtain rfl : ad100001 = ad100003 := (by injection e100003)
                              replace hx100003_0 := (HB.out.cell (World.block_lt_of_cell? w _ hx100003_0)).trans hx100003_0
                              replace hx100003_1 := (HB.out.cell (World.block_lt_of_cell? w _ hx100003_1)).trans hx100003_1
                              replace hx100003_2 := (HB.out.cell (World.block_lt_of_cell? w _ hx100003_2)).trans hx100003_2
                              replace p100003 := eq_true p100003
                              replace q100003 := eq_true q100003
                              go_wp2_with (first | ((with_reducible refine gate_dst (N := 5) rfl ?_); refine box_event ?hg (N := 5) ?hd (cs := #[.int .i64 0, .int .i64 0, .int .i64 0]) (t := 118) ?hr ?_; (case hd => rfl); (case hg => rfl); (case hr => first | (go_simp; done) | (go_simp; rfl)); intro gb100004 hg w33 hbox hb; have n0_ := Aside0.mk (blk_below (g := gb100002) (o := .cells #[.int .i64 ((rd_T118 l0 x8_1).f0), .int .i64 ((rd_T118 l0 x8_1).f1), .int .i64 ((rd_T118 l0 x8_1).f2)] 118 (0, 0)) (by (with_reducible repeat (first | refine blk_drewN ?_ _ | refine blk_drew ?_ | refine blk_alloc ?_ _)); exact BK100002.out) hb); have n1_ := Aside0.mk (below_step (by repeat (first | (with_reducible first | exact HB.out | apply below_alloc | apply pw_below_drewN | apply below_drew1 | refine below_set ?_ GE100002.out) | exact HB.out)) hb); have n2_ := Aside0.mk (hbox); have n3_ := Aside0.mk ((by rw [hg]; exact (below_size (by repeat (first | (with_reducible first | exact HB.out | apply below_alloc | apply pw_below_drewN | apply below_drew1 | refine below_set ?_ GE100002.out) | exact HB.out))) : w.heap.size ≤ gb100004)); have n4_ := Aside0.mk ((by rw [hg]; exact (below_size (by repeat (first | (with_reducible first | exact HB.out | apply below_alloc | apply pw_below_drewN | apply below_drew1 | refine below_set ?_ GE100002.out) | exact HB.out))) : w.heap.size ≤ gb100004)); have n5_ := Aside0.mk ((by rw [hg]; exact Nat.ne_of_lt (blk_lt (g := gb100002) (o := .cells #[.int .i64 ((rd_T118 l0 x8_1).f0), .int .i64 ((rd_T118 l0 x8_1).f1), .int .i64 ((rd_T118 l0 x8_1).f2)] 118 (0, 0)) (by (with_reducible repeat (first | refine blk_drewN ?_ _ | refine blk_drew ?_ | refine blk_alloc ?_ _)); exact BK100002.out)) : gb100002 ≠ gb100004)); have n6_ := Aside0.mk ((by rw [hg]; exact Nat.ne_of_gt (blk_lt (g := gb100002) (o := .cells #[.int .i64 ((rd_T118 l0 x8_1).f0), .int .i64 ((rd_T118 l0 x8_1).f1), .int .i64 ((rd_T118 l0 x8_1).f2)] 118 (0, 0)) (by (with_reducible repeat (first | refine blk_drewN ?_ _ | refine blk_drew ?_ | refine blk_alloc ?_ _)); exact BK100002.out)) : gb100004 ≠ gb100002)); clear BK100002; clear HB; have BK100002 := n0_; have HB := n1_; have BK100004 := n2_; have GW100004 := n3_; have GE100004 := n4_; have NB100002_100004 := n5_; have NB100004_100002 := n6_; clear n0_ n1_ n2_ n3_ n4_ n5_ n6_; clear hb hbox hg; have hnb34 := NB100004_100002.out; have hnc34 := NB100002_100004.out; have hcz35_0 : w33.cell? ⟨gb100004, 0, none⟩ = some (.int .i64 0) := (blk_cell BK100004.out 0).trans rfl; have hcz35_1 : w33.cell? ⟨gb100004, 1, none⟩ = some (.int .i64 0) := (blk_cell BK100004.out 1).trans rfl; have hcz35_2 : w33.cell? ⟨gb100004, 2, none⟩ = some (.int .i64 0) := (blk_cell BK100004.out 2).trans rfl; have hfz35_0 := blk_frozen BK100004.out 0; have hfz35_1 := blk_frozen BK100004.out 1; have hfz35_2 := blk_frozen BK100004.out 2; have hcz36_0 : w33.cell? ⟨gb100002, 0, none⟩ = some (.int .i64 ((rd_T118 l0 x8_1).f0)) := (blk_cell BK100002.out 0).trans rfl; have hcz36_1 : w33.cell? ⟨gb100002, 1, none⟩ = some (.int .i64 ((rd_T118 l0 x8_1).f1)) := (blk_cell BK100002.out 1).trans rfl; have hcz36_2 : w33.cell? ⟨gb100002, 2, none⟩ = some (.int .i64 ((rd_T118 l0 x8_1).f2)) := (blk_cell BK100002.out 2).trans rfl; have hfz36_0 := blk_frozen BK100002.out 0; have hfz36_1 := blk_frozen BK100002.out 1; have hfz36_2 := blk_frozen BK100002.out 2))
                              go_roundg kj4
                              case measure => have := HK1.out; have := HJ4.out; omega
                              case rel => exact ⟨(wrap64 (x8_1 + 1)), (by first | rfl | (simp; done) | (simp [*]; done)), H', ⟨by have := HK1.out; have := HJ4.out; omega⟩, ⟨by repeat (first | (with_reducible first | exact HB.out | apply below_alloc | apply pw_below_drewN | apply below_drew1 | refine below_set ?_ GE100002.out | refine below_set ?_ GE100004.out) | exact HB.out)⟩⟩
                          · rw [if_neg c27] at H
                            have c27b0 : (((rd_T118 l0 x8_1).f0) == ((rd_T118 l0 (ji19)).f0)) = false := beq_eq_false_iff_ne.mpr c27
                            have c27b1 : (((rd_T118 l0 x8_1).f0) != ((rd_T118 l0 (ji19)).f0)) = true := bne_iff_ne.mpr c27
                            have H' := Aside0.mk H
                            clear H
                            have p100003 : 0 ≤ ((ji19) : Int) := of_decide_eq_true (by first | (with_reducible assumption) | assumption)
                            have q100003 : (ji19) < (l0.length : Int) := of_decide_eq_true (by first | (with_reducible assumption) | assumption)
                            obtain ⟨ad100003, e100003, hx100003_0, hx100003_1, hx100003_2⟩ := at_T118 HR0.out (ji19) p100003 q100003
                            obtain rfl : ad100001 = ad100003 := (by injection e100003)
                            replace hx100003_0 := (HB.out.cell (World.block_lt_of_cell? w _ hx100003_0)).trans hx100003_0
                            replace hx100003_1 := (HB.out.cell (World.block_lt_of_cell? w _ hx100003_1)).trans hx100003_1
                            replace hx100003_2 := (HB.out.cell (World.block_lt_of_cell? w _ hx100003_2)).trans hx100003_2
                            replace p100003 := eq_true p100003
                            replace q100003 := eq_true q100003
                            go_wp2_with (first | ((with_reducible refine gate_dst (N := 5) rfl ?_); refine box_event ?hg (N := 5) ?hd (cs := #[.int .i64 0, .int .i64 0, .int .i64 0]) (t := 118) ?hr ?_; (case hd => rfl); (case hg => rfl); (case hr => first | (go_simp; done) | (go_simp; rfl)); intro gb100004 hg w37 hbox hb; have n0_ := Aside0.mk (blk_below (g := gb100002) (o := .cells #[.int .i64 ((rd_T118 l0 x8_1).f0), .int .i64 ((rd_T118 l0 x8_1).f1), .int .i64 ((rd_T118 l0 x8_1).f2)] 118 (0, 0)) (by (with_reducible repeat (first | refine blk_drewN ?_ _ | refine blk_drew ?_ | refine blk_alloc ?_ _)); exact BK100002.out) hb); have n1_ := Aside0.mk (below_step (by repeat (first | (with_reducible first | exact HB.out | apply below_alloc | apply pw_below_drewN | apply below_drew1 | refine below_set ?_ GE100002.out) | exact HB.out)) hb); have n2_ := Aside0.mk (hbox); have n3_ := Aside0.mk ((by rw [hg]; exact (below_size (by repeat (first | (with_reducible first | exact HB.out | apply below_alloc | apply pw_below_drewN | apply below_drew1 | refine below_set ?_ GE100002.out) | exact HB.out))) : w.heap.size ≤ gb100004)); have n4_ := Aside0.mk ((by rw [hg]; exact (below_size (by repeat (first | (with_reducible first | exact HB.out | apply below_alloc | apply pw_below_drewN | apply below_drew1 | refine below_set ?_ GE100002.out) | exact HB.out))) : w.heap.size ≤ gb100004)); have n5_ := Aside0.mk ((by rw [hg]; exact Nat.ne_of_lt (blk_lt (g := gb100002) (o := .cells #[.int .i64 ((rd_T118 l0 x8_1).f0), .int .i64 ((rd_T118 l0 x8_1).f1), .int .i64 ((rd_T118 l0 x8_1).f2)] 118 (0, 0)) (by (with_reducible repeat (first | refine blk_drewN ?_ _ | refine blk_drew ?_ | refine blk_alloc ?_ _)); exact BK100002.out)) : gb100002 ≠ gb100004)); have n6_ := Aside0.mk ((by rw [hg]; exact Nat.ne_of_gt (blk_lt (g := gb100002) (o := .cells #[.int .i64 ((rd_T118 l0 x8_1).f0), .int .i64 ((rd_T118 l0 x8_1).f1), .int .i64 ((rd_T118 l0 x8_1).f2)] 118 (0, 0)) (by (with_reducible repeat (first | refine blk_drewN ?_ _ | refine blk_drew ?_ | refine blk_alloc ?_ _)); exact BK100002.out)) : gb100004 ≠ gb100002)); clear BK100002; clear HB; have BK100002 := n0_; have HB := n1_; have BK100004 := n2_; have GW100004 := n3_; have GE100004 := n4_; have NB100002_100004 := n5_; have NB100004_100002 := n6_; clear n0_ n1_ n2_ n3_ n4_ n5_ n6_; clear hb hbox hg; have hnb38 := NB100004_100002.out; have hnc38 := NB100002_100004.out; have hcz39_0 : w37.cell? ⟨gb100004, 0, none⟩ = some (.int .i64 0) := (blk_cell BK100004.out 0).trans rfl; have hcz39_1 : w37.cell? ⟨gb100004, 1, none⟩ = some (.int .i64 0) := (blk_cell BK100004.out 1).trans rfl; have hcz39_2 : w37.cell? ⟨gb100004, 2, none⟩ = some (.int .i64 0) := (blk_cell BK100004.out 2).trans rfl; have hfz39_0 := blk_frozen BK100004.out 0; have hfz39_1 := blk_frozen BK100004.out 1; have hfz39_2 := blk_frozen BK100004.out 2; have hcz40_0 : w37.cell? ⟨gb100002, 0, none⟩ = some (.int .i64 ((rd_T118 l0 x8_1).f0)) := (blk_cell BK100002.out 0).trans rfl; have hcz40_1 : w37.cell? ⟨gb100002, 1, none⟩ = some (.int .i64 ((rd_T118 l0 x8_1).f1)) := (blk_cell BK100002.out 1).trans rfl; have hcz40_2 : w37.cell? ⟨gb100002, 2, none⟩ = some (.int .i64 ((rd_T118 l0 x8_1).f2)) := (blk_cell BK100002.out 2).trans rfl; have hfz40_0 := blk_frozen BK100002.out 0; have hfz40_1 := blk_frozen BK100002.out 1; have hfz40_2 := blk_frozen BK100002.out 2))
                            go_roundg kj4
                            case measure => have := HK1.out; have := HJ4.out; omega
                            case rel => exact ⟨(wrap64 (x8_1 + 1)), (by first | rfl | (simp; done) | (simp [*]; done)), H', ⟨by have := HK1.out; have := HJ4.out; omega⟩, ⟨by repeat (first | (with_reducible first | exact HB.out | apply below_alloc | apply pw_below_drewN | apply below_drew1 | refine below_set ?_ GE100002.out | refine below_set ?_ GE100004.out) | exact HB.out)⟩⟩
                      · rw [if_neg c21] at H
                        exact absurd H (by simp)
                    · rw [if_neg c20] at H
                      exact absurd H (by simp)
          · rw [if_neg c4] at H
            exact absurd H (by simp)
        · rw [if_neg c3] at H
          exact absurd H (by simp)
      · rw [if_neg c2] at H
        have c2b0 : decide (x8_1 < (l0.length : Int)) = false := decide_eq_false c2
        clear c2
        obtain rfl := Option.some.inj H
        go_wp2
        go_ret
        exact ⟨by first | rfl | (simp [errW_none, errW_some] <;> rfl) | (simp [*, errW_none, errW_some] <;> rfl), by repeat (first | (with_reducible first | exact HB.out | apply below_alloc | apply pw_below_drewN | apply below_drew1) | exact HB.out)⟩

end Go.Proofs.Ytnofkbbcbpjhfaa.Q

namespace Go.Proofs.Ytnofkbbcbpjhfaa.Q
open Go.RowKit Go.Proofs.YtnofkbbcbpjhfaaW.PrintWords Go.Proofs.YtnofkbbcbpjhfaaW.PrintLast Go.Proofs.YtnofkbbcbpjhfaaW.PrintMore
attribute [local go_sem] max2_int min2_int max_two min_two max_three min_three max_four min_four
set_option linter.unusedVariables false
set_option linter.unusedSimpArgs false
/-! ### impl_AreaOf: function 37 -/
def impl_AreaOf.l0 : Nat → Int → List (S118) → Int → Int → Option (Int)
  | 0, _, _, _, _ => none
  | k + 1, x3, x9, x10, x11 => if x11 < x10 then (if 0 ≤ x11 then (if x11 < (x9.length : Int) then (impl_AreaOf.l0 k (wrap64 (x3 + (wrap64 (((rd_T118 x9 x11).f2) - ((rd_T118 x9 x11).f1))))) x9 x10 (wrap64 (x11 + 1))) else (none)) else (none)) else (some x3)
def impl_AreaOf.f (k : Nat) (l0 : List (S118)) : Option (Int) := (impl_isRegion.f k l0).bind fun t38001 => (if t38001 = true then (impl_AreaOf.l0 k 0 l0 (l0.length : Int) 0) else (some (-1)))
theorem impl_AreaOf.mono_l : ∀ k, (∀ y0 y1 y2 y3, LeO (impl_AreaOf.l0 k y0 y1 y2 y3) (impl_AreaOf.l0 (k + 1) y0 y1 y2 y3))
  | 0 => fun _ _ _ _ r h => by simp [impl_AreaOf.l0] at h
  | k + 1 => by
    have ih0 := impl_AreaOf.mono_l k
    · intro y0 y1 y2 y3
      unfold impl_AreaOf.l0
      repeat' first
      | (with_reducible exact ih0 _ _ _ _)
      | (with_reducible exact impl_isRegion.mono _ _)
      | (with_reducible exact LeO.refl _)
      | (with_reducible exact LeO.none _)
      | (with_reducible refine LeO.ite ?_ ?_)
      | (with_reducible refine LeO.bind ?_ (fun _ => ?_))
      | exact ih0 _ _ _ _
      | exact impl_isRegion.mono _ _
      | exact LeO.none _
      | refine LeO.ite ?_ ?_
      | refine LeO.bind ?_ (fun _ => ?_)
theorem impl_AreaOf.mono : ∀ a0 k, LeO (impl_AreaOf.f k a0) (impl_AreaOf.f (k + 1) a0) := by
  intro a0 k
  have ih0 := impl_AreaOf.mono_l k
  unfold impl_AreaOf.f
  repeat' first
      | (with_reducible exact ih0 _ _ _ _)
      | (with_reducible exact impl_isRegion.mono _ _)
      | (with_reducible exact LeO.refl _)
      | (with_reducible exact LeO.none _)
      | (with_reducible refine LeO.ite ?_ ?_)
      | (with_reducible refine LeO.bind ?_ (fun _ => ?_))
      | exact ih0 _ _ _ _
      | exact impl_isRegion.mono _ _
      | exact LeO.none _
      | refine LeO.ite ?_ ?_
      | refine LeO.bind ?_ (fun _ => ?_)
set_option maxHeartbeats 8000000 in
set_option maxRecDepth 100000 in
theorem impl_AreaOf.calls (k : Nat) (A0 : Option Addr) (c0 : Nat) (l0 : List (S118)) (r : Int) (w : World) (hr0 : Kd.C k118 w A0 l0.length l0) (hc0 : l0.length ≤ c0) (h : impl_AreaOf.f k l0 = some r) :
    Calls Try.prog 37 #[.slice A0 l0.length c0] w fun e w' => e = .returned (.int .i64 r) ∧ Below w.heap.size w w' := by
  have hu118 := Try.underlying118
  have HR0 := Aside0.mk hr0
  have HC0 := Aside0.mk hc0
  clear hr0 hc0
  have HB := Aside0.mk (Below.refl w.heap.size w)
  have H : ((impl_isRegion.f k l0).bind fun t38001 => (if t38001 = true then (impl_AreaOf.l0 k 0 l0 (l0.length : Int) 0) else (some (-1)))) = some r := h
  clear h
  replace H := Option.bind_eq_some_iff.mp H
  obtain ⟨t38001, A20, H⟩ := H
  replace H : (if t38001 = true then (impl_AreaOf.l0 k 0 l0 (l0.length : Int) 0) else (some (-1))) = some r := H
  have A2 := Aside0.mk A20
  clear A20
  by_cases c3 : t38001 = true
  · subst c3
    have H1 : (impl_AreaOf.l0 k 0 l0 (l0.length : Int) 0) = some r := by rw [if_pos rfl] at H; exact H
    clear H
    have H := H1
    clear H1
    have H' := Aside0.mk H
    clear H
    go_enter Try.func37, Try.ntmps37
    go_wp2_with (first | ((with_reducible refine gate_callee (f := 99) rfl ?_); refine goesL_ (some 7) rfl rfl Try.func99 (by kernel_rfl) rfl #[.slice A0 l0.length c0] rfl (by (try simp only [List.map_toArray, List.map_cons, List.map_nil]); first | done | rfl | (simp only [List.length_drop, List.length_take]; rfl)) ?_; (with_reducible refine (impl_isRegion.calls k _ _ l0 true _ ?side1 ?side2 A2.out).mono ?_); (case side1 => repeat (first | exact HR0.out | (with_reducible refine Kd.C_alloc ?_ _) | (with_reducible refine Kd.C_drewN ?_ _) | (with_reducible refine Kd.C_drew ?_))); (case side2 => exact HC0.out); rintro e w4 ⟨rfl, hb⟩; refine ⟨_, rfl, ?_⟩; have n0_ := Aside0.mk (below_step (by repeat (first | (with_reducible first | exact HB.out | apply below_alloc | apply pw_below_drewN | apply below_drew1) | exact HB.out)) hb); clear HB; have HB := n0_; clear n0_; (try clear hb); (try clear hb2); (try clear hk); (try clear hi)))
    go_loopg [3, 11] k (fun kq v3 v11 w' => ∃ (x3_1 : Int) (x11_1 : Int), v3 = .int .i64 x3_1 ∧ v11 = .int .i64 x11_1 ∧ Aside0 (impl_AreaOf.l0 kq x3_1 l0 (l0.length : Int) x11_1 = some r) ∧ Aside0 (kq ≤ k) ∧ Aside0 (Below w.heap.size w w'))
    case atStart => exact ⟨(0), (0), (by first | rfl | (simp; done) | (simp [*]; done)), (by first | rfl | (simp; done) | (simp [*]; done)), H', ⟨Nat.le_refl _⟩, ⟨by repeat (first | (with_reducible first | exact HB.out | apply below_alloc | apply pw_below_drewN | apply below_drew1) | exact HB.out)⟩⟩
    case round =>
      clear H'
      try clear p2
      try clear c3
      obtain ⟨x3_1, x11_1, rfl, rfl, HA, HK1, HB⟩ := hrel
      cases gk with
      | zero => exact absurd HA.out (by simp [impl_AreaOf.l0])
      | succ k1 =>
        have H := HA.out
        clear HA
        simp only [impl_AreaOf.l0] at H
        by_cases c5 : x11_1 < (l0.length : Int)
        · rw [if_pos c5] at H
          have c5b0 : decide (x11_1 < (l0.length : Int)) = true := decide_eq_true c5
          clear c5
          by_cases c6 : 0 ≤ x11_1
          · rw [if_pos c6] at H
            have c6b0 : decide (0 ≤ x11_1) = true := decide_eq_true c6
            clear c6
            by_cases c7 : x11_1 < (l0.length : Int)
            · rw [if_pos c7] at H
              have c7b0 : decide (x11_1 < (l0.length : Int)) = true := decide_eq_true c7
              clear c7
              have H' := Aside0.mk H
              clear H
              have p38002 : 0 ≤ (x11_1 : Int) := of_decide_eq_true (by first | (with_reducible assumption) | assumption)
              have q38002 : x11_1 < (l0.length : Int) := of_decide_eq_true (by first | (with_reducible assumption) | assumption)
              obtain ⟨ad38002, e38002, hx38002_0, hx38002_1, hx38002_2⟩ := at_T118 HR0.out x11_1 p38002 q38002
              cases e38002
              replace hx38002_0 := (HB.out.cell (World.block_lt_of_cell? w _ hx38002_0)).trans hx38002_0
              replace hx38002_1 := (HB.out.cell (World.block_lt_of_cell? w _ hx38002_1)).trans hx38002_1
              replace hx38002_2 := (HB.out.cell (World.block_lt_of_cell? w _ hx38002_2)).trans hx38002_2
              replace p38002 := eq_true p38002
              replace q38002 := eq_true q38002
              go_wp2_with (first | ((with_reducible refine gate_dst (N := 5) rfl ?_); refine box_event ?hg (N := 5) ?hd (cs := #[.int .i64 0, .int .i64 0, .int .i64 0]) (t := 118) ?hr ?_; (case hd => rfl); (case hg => rfl); (case hr => first | (go_simp; done) | (go_simp; rfl)); intro gb38003 hg w8 hbox hb; have n0_ := Aside0.mk (below_step (by repeat (first | (with_reducible first | exact HB.out | apply below_alloc | apply pw_below_drewN | apply below_drew1) | exact HB.out)) hb); have n1_ := Aside0.mk (hbox); have n2_ := Aside0.mk ((by rw [hg]; exact (below_size (by repeat (first | (with_reducible first | exact HB.out | apply below_alloc | apply pw_below_drewN | apply below_drew1) | exact HB.out))) : w.heap.size ≤ gb38003)); have n3_ := Aside0.mk ((by rw [hg]; exact (below_size (by repeat (first | (with_reducible first | exact HB.out | apply below_alloc | apply pw_below_drewN | apply below_drew1) | exact HB.out))) : w.heap.size ≤ gb38003)); clear HB; have HB := n0_; have BK38003 := n1_; have GW38003 := n2_; have GE38003 := n3_; clear n0_ n1_ n2_ n3_; clear hb hbox hg; have hcz9_0 : w8.cell? ⟨gb38003, 0, none⟩ = some (.int .i64 0) := (blk_cell BK38003.out 0).trans rfl; have hcz9_1 : w8.cell? ⟨gb38003, 1, none⟩ = some (.int .i64 0) := (blk_cell BK38003.out 1).trans rfl; have hcz9_2 : w8.cell? ⟨gb38003, 2, none⟩ = some (.int .i64 0) := (blk_cell BK38003.out 2).trans rfl; have hfz9_0 := blk_frozen BK38003.out 0; have hfz9_1 := blk_frozen BK38003.out 1; have hfz9_2 := blk_frozen BK38003.out 2))
              go_roundg k1
              case measure => have := HK1.out; omega
              case rel => exact ⟨(wrap64 (x3_1 + (wrap64 (((rd_T118 l0 x11_1).f2) - ((rd_T118 l0 x11_1).f1))))), (wrap64 (x11_1 + 1)), (by first | rfl | (simp; done) | (simp [*]; done)), (by first | rfl | (simp; done) | (simp [*]; done)), H', ⟨by have := HK1.out; omega⟩, ⟨by repeat (first | (with_reducible first | exact HB.out | apply below_alloc | apply pw_below_drewN | apply below_drew1 | refine below_set ?_ GE38003.out) | exact HB.out)⟩⟩
            · rw [if_neg c7] at H
              exact absurd H (by simp)
          · rw [if_neg c6] at H
            exact absurd H (by simp)
        · rw [if_neg c5] at H
          have c5b0 : decide (x11_1 < (l0.length : Int)) = false := decide_eq_false c5
          clear c5
          obtain rfl := Option.some.inj H
          go_wp2
          go_ret
          exact ⟨by first | rfl | (simp [errW_none, errW_some] <;> rfl) | (simp [*, errW_none, errW_some] <;> rfl), by repeat (first | (with_reducible first | exact HB.out | apply below_alloc | apply pw_below_drewN | apply below_drew1) | exact HB.out)⟩
  · replace c3 := Bool.eq_false_iff.mpr c3
    subst c3
    have H1 : (some (-1)) = some r := by rw [if_neg (show ¬ (false = true) by decide)] at H; exact H
    clear H
    have H := H1
    clear H1
    obtain rfl := Option.some.inj H
    go_enter Try.func37, Try.ntmps37
    go_wp2_with (first | ((with_reducible refine gate_callee (f := 99) rfl ?_); refine goesL_ (some 7) rfl rfl Try.func99 (by kernel_rfl) rfl #[.slice A0 l0.length c0] rfl (by (try simp only [List.map_toArray, List.map_cons, List.map_nil]); first | done | rfl | (simp only [List.length_drop, List.length_take]; rfl)) ?_; (with_reducible refine (impl_isRegion.calls k _ _ l0 false _ ?side1 ?side2 A2.out).mono ?_); (case side1 => repeat (first | exact HR0.out | (with_reducible refine Kd.C_alloc ?_ _) | (with_reducible refine Kd.C_drewN ?_ _) | (with_reducible refine Kd.C_drew ?_))); (case side2 => exact HC0.out); rintro e w10 ⟨rfl, hb⟩; refine ⟨_, rfl, ?_⟩; have n0_ := Aside0.mk (below_step (by repeat (first | (with_reducible first | exact HB.out | apply below_alloc | apply pw_below_drewN | apply below_drew1) | exact HB.out)) hb); clear HB; have HB := n0_; clear n0_; (try clear hb); (try clear hb2); (try clear hk); (try clear hi)))
    go_ret
    exact ⟨by first | rfl | (simp [errW_none, errW_some] <;> rfl) | (simp [*, errW_none, errW_some] <;> rfl), by repeat (first | (with_reducible first | exact HB.out | apply below_alloc | apply pw_below_drewN | apply below_drew1) | exact HB.out)⟩

end Go.Proofs.Ytnofkbbcbpjhfaa.Q

/- impl.gridOf: the grid of runs that are in range. -/
namespace Go.Proofs.Ytnofkbbcbpjhfaa.Q
open Go.RowKit Go.Proofs.YtnofkbbcbpjhfaaW.PrintWords Go.Proofs.YtnofkbbcbpjhfaaW.PrintLast Go.Proofs.YtnofkbbcbpjhfaaW.PrintMore
attribute [local go_sem] max2_int min2_int max_two min_two max_three min_three max_four min_four
set_option linter.unusedVariables false
set_option linter.unusedSimpArgs false

def runIn (r : S118) (p : Nat) : Bool := decide (r.f0 = ((p / 16 : Nat) : Int)) && decide (r.f1 ≤ ((p % 16 : Nat) : Int)) && decide (((p % 16 : Nat) : Int) < r.f2)
def gridF (l : List S118) (p : Nat) : Bool := l.any fun r => runIn r p
theorem gridF_succ (l : List S118) (k : Nat) (h : k < l.length) (p : Nat) : gridF (l.take (k + 1)) p = (gridF (l.take k) p || runIn l[k] p) := by
  unfold gridF
  rw [List.take_succ_eq_append_getElem h, List.any_append]; simp
/-- a run's pixels before column x -/
def runTo (r : S118) (x : Nat) (p : Nat) : Bool := decide (r.f0 = ((p / 16 : Nat) : Int)) && decide (r.f1 ≤ ((p % 16 : Nat) : Int)) && decide (p % 16 < x)
theorem runTo_step (r : S118) (Y x : Nat) (hY : r.f0 = (Y : Int)) (hx : x < 16) (hF : r.f1 ≤ (x : Int)) (g : Nat → Bool) (p : Nat) :
    (if p = Y * 16 + x then true else (g p || runTo r x p)) = (g p || runTo r (x + 1) p) := by
  unfold runTo
  by_cases e : p = Y * 16 + x
  · rw [if_pos e]
    have h1 : p % 16 = x := by omega
    have h2 : p / 16 = Y := by omega
    rw [h1, h2, hY]
    simp [hF]
  · rw [if_neg e]
    congr 1
    by_cases c1 : r.f0 = ((p / 16 : Nat) : Int)
    · have : decide (p % 16 < x) = decide (p % 16 < x + 1) := by
        rw [decide_eq_decide]
        have : p % 16 ≠ x := by omega
        omega
      rw [this]
    · rw [decide_eq_false c1, Bool.false_and, Bool.false_and, Bool.false_and]

set_option maxHeartbeats 8000000 in
set_option maxRecDepth 100000 in
theorem gridOf_calls (A0 : Option Addr) (c0 : Nat) (l0 : List S118) (w : World) (hr0 : Kd.C k118 w A0 l0.length l0) (hok : ∀ r ∈ l0, 0 ≤ r.f0 ∧ r.f0 < 16 ∧ 0 ≤ r.f1 ∧ r.f2 ≤ 16) :
    Calls Try.prog 139 #[.slice A0 l0.length c0] w fun e w' => e = .returned (.agg (gc (gridF l0))) ∧ Below w.heap.size w w' := by
  have hm : l0.length ≤ 9223372036854775807 := hr0.2.1
  have HR := Aside0.mk hr0
  have HOK := Aside0.mk hok
  clear hr0 hok
  have hu := Try.underlying118
  have z0 := zero66
  have hst := run_storeCells_new (P := Try.prog) (w.alloc (.cells (gc fun _ => false) 112)) 112 (gc fun _ => false) (gc fun _ => false) (by rw [gc_size]; exact info66) rfl (gc_one _)
  simp only [World.size_alloc] at hst
  go_enter Try.func139, Try.ntmps139
  go_wp2
  go_loopw [10] (fun v10 W => ∃ k : Nat, v10 = .int .i64 k ∧ k ≤ l0.length ∧ GridAt W (w.heap.size + 1) (gridF (l0.take k)) ∧ GridAt W w.heap.size (fun _ => false) ∧ Aside0 (Below w.heap.size w W)) (fun v10 _ => l0.length - (intOf v10).toNat)
  case atStart =>
    refine ⟨0, rfl, by omega, ?_, (GridAt.new _ _).alloc _, ⟨((Below.refl _ _).alloc (Nat.le_refl _) _).alloc (by simp) _⟩⟩
    have h := GridAt.new (w.alloc (.cells (gc fun _ => false) 112)) (fun _ => false)
    simp only [World.size_alloc] at h
    exact h.congr (fun p _ => by simp [gridF])
  case round =>
    obtain ⟨k, rfl, hk, hg, hg2, hb⟩ := hrel
    clear hst
    obtain ⟨wo, rfl⟩ : ∃ wo : World, wo = wr := ⟨_, rfl⟩
    by_cases hlt : k < l0.length
    · have hdk : decide ((k : Int) < (l0.length : Int)) = true := by simp; omega
      obtain ⟨ad, e, hx0, hx1, hx2⟩ := at_T118 HR.out (k : Int) (by omega) (by omega)
      cases e
      have er : rd_T118 l0 (k : Int) = l0[k] := by simp [rd_T118, hlt]
      have ho := HOK.out l0[k] (List.getElem_mem hlt)
      have HGS := Aside0.mk (gridF_succ l0 k hlt)
      rw [er, Int.toNat_natCast] at hx0 hx1 hx2
      clear er
      generalize l0[k] = r at *
      obtain ⟨Y, hY⟩ := Int.eq_ofNat_of_zero_le ho.1
      obtain ⟨F, hF⟩ := Int.eq_ofNat_of_zero_le ho.2.2.1
      have ho2 := ho.2.1
      have ho4 := ho.2.2.2
      clear ho
      rw [hY] at hx0 ho2
      rw [hF] at hx1
      replace hx0 := (hb.out.cell (World.block_lt_of_cell? w _ hx0)).trans hx0
      replace hx1 := (hb.out.cell (World.block_lt_of_cell? w _ hx1)).trans hx1
      replace hx2 := (hb.out.cell (World.block_lt_of_cell? w _ hx2)).trans hx2
      have HY := Aside0.mk hY
      have HF := Aside0.mk hF
      clear hY hF
      go_wp2
      have hlt2 := hg.lt
      go_loopw [6] (fun v6 W => ∃ x : Nat, v6 = .int .i64 x ∧ F ≤ x ∧ ((x : Int) ≤ r.f2 ∨ x = F) ∧ GridAt W (w.heap.size + 1) (fun p => gridF (l0.take k) p || runTo r x p) ∧ GridAt W w.heap.size (fun _ => false) ∧ Aside0 (W.heap[wo.heap.size]? = some (.cells #[.int .i64 (Y : Int), .int .i64 (F : Int), .int .i64 r.f2] 118 (0, 0))) ∧ Aside0 (Below w.heap.size w W)) (fun v6 _ => 17 - (intOf v6).toNat + (r.f2 - (intOf v6)).toNat)
      case atStart =>
        refine ⟨F, rfl, Nat.le_refl _, .inr rfl, (hg.alloc _).congr (fun p _ => ?_), hg2.alloc _, ⟨blk_new _ _⟩, ⟨below_alloc hb.out _⟩⟩
        have : runTo r F p = false := by
          unfold runTo
          rw [HF.out]
          by_cases c : ((F : Nat) : Int) ≤ ((p % 16 : Nat) : Int)
          · rw [decide_eq_false (show ¬ p % 16 < F by omega), Bool.and_false]
          · rw [decide_eq_false c, Bool.and_false, Bool.false_and]
        rw [this, Bool.or_false]
      case round =>
        clear hg hg2 hb
        obtain ⟨x, rfl, hFx, hx, hg, hg2, hr, hb⟩ := hrel
        have hc0 : wr.cell? ⟨wo.heap.size, 0, none⟩ = some (.int .i64 (Y : Int)) := (blk_cell hr.out 0).trans rfl
        have hc2 : wr.cell? ⟨wo.heap.size, 2, none⟩ = some (.int .i64 r.f2) := (blk_cell hr.out 2).trans rfl
        by_cases hxt : (x : Int) < r.f2
        · have hdx : decide ((x : Int) < r.f2) = true := by simpa using hxt
          have hcg := hg.cell (Y * 16 + x) (by omega)
          have hfg := hg.free (Y * 16 + x)
          have hx16 : x < 16 := by omega
          go_wp2
          go_roundw
          case rel => exact ⟨x + 1, by go_num, by omega, .inl (by omega), (hg.set_ (Y * 16 + x) true).congr (fun p _ => runTo_step r Y x HY.out hx16 (by rw [HF.out]; omega) _ p), blk_far hg2 (by simp) _, ⟨blk_far hr.out (by simp; omega) _⟩, ⟨below_set hb.out (by omega)⟩⟩
          case measure => simp [intOf]; omega
        · have hdx : decide ((x : Int) < r.f2) = false := by simpa using hxt
          go_wp2
          go_roundw
          case rel =>
            refine ⟨k + 1, by go_num, by omega, hg.congr (fun p _ => ?_), hg2, hb⟩
            rw [HGS.out]
            congr 1
            unfold runTo runIn
            rw [HF.out]
            by_cases c : ((F : Nat) : Int) ≤ ((p % 16 : Nat) : Int)
            · congr 1
              rw [decide_eq_decide]
              omega
            · rw [decide_eq_false c, Bool.and_false, Bool.false_and, Bool.false_and]
          case measure => simp [intOf]; omega
    · have hdk : decide ((k : Int) < (l0.length : Int)) = false := by simp; omega
      have hkl : k = l0.length := by omega
      subst hkl
      have hi : (Try.prog.info? 112).map (·.size) = some (gc (gridF l0)).size := by rw [gc_size]; exact info66
      have hold : (gc fun _ => false).size = (gc (gridF l0)).size := by rw [gc_size, gc_size]
      have h1 := gc_one (gridF l0)
      rw [List.take_length] at hg
      have hg' : wo.heap[w.heap.size + 1]? = some (.cells (gc (gridF l0)) 112 (0, 0)) := hg
      have hg2' : wo.heap[w.heap.size]? = some (.cells (gc fun _ => false) 112 (0, 0)) := hg2
      go_wp2_with (first
        | ((with_reducible refine gate_dst (N := 28) rfl ?_); refine wpList_load_row rfl 112 (.tmp 3) rfl (w.heap.size + 1) rfl 112 (gc (gridF l0)) (0, 0) (.array 16 110) hg' underlying66 rfl hi ?_)
        | ((with_reducible refine wpList_store_row rfl 112 (.tmp 2) (.tmp 28) rfl w.heap.size (gc (gridF l0)) ?hx ?hy 112 (gc fun _ => false) hg2' hi hold h1 ?_); (case hx => rfl); (case hy => rfl)))
      refine bodyPost_ret (results_cell_row rfl _ _ w.heap.size 112 (gc (gridF l0)) (0, 0) (.array 16 110) rfl (hg2.setRow (gridF l0)) underlying66 rfl hi) rfl ?_
      exact ⟨rfl, below_setRow hb.out (Nat.le_refl _) _⟩
end Go.Proofs.Ytnofkbbcbpjhfaa.Q

/- Runs: what the program and the reference take for a region. -/
namespace Go.Proofs.Ytnofkbbcbpjhfaa.Pure
open Go.RowKit Go.Proofs.Ytnofkbbcbpjhfaa.Q Go.Proofs.YtnofkbbcbpjhfaaW.PrintWords Go.Proofs.YtnofkbbcbpjhfaaW.PrintLast Go.Proofs.YtnofkbbcbpjhfaaW.PrintMore
set_option linter.unusedVariables false
set_option linter.unusedSimpArgs false

abbrev Run := S118
theorem rdRun (l : List Run) (i : Nat) (h : i < l.length) : rd_T118 l (i : Int) = l[i] := by simp [rd_T118, h]
def runOK (r : Run) : Bool := decide (0 ≤ r.f0) && decide (r.f0 < 16) && decide (0 ≤ r.f1) && decide (r.f1 < r.f2) && decide (r.f2 ≤ 16)
theorem runOK_iff (r : Run) : runOK r = true ↔ 0 ≤ r.f0 ∧ r.f0 < 16 ∧ 0 ≤ r.f1 ∧ r.f1 < r.f2 ∧ r.f2 ≤ 16 := by
  simp [runOK, and_assoc]
def runAfter (p r : Run) : Bool := decide (p.f0 < r.f0) || (decide (p.f0 = r.f0) && decide (p.f2 < r.f1))
theorem runAfter_iff (p r : Run) : runAfter p r = true ↔ p.f0 < r.f0 ∨ (p.f0 = r.f0 ∧ p.f2 < r.f1) := by
  simp [runAfter]
/-- Runs of a region: each in range, and behind the one before it. -/
def validFrom : Option Run → List Run → Bool
  | _, [] => true
  | none, r :: rs => runOK r && validFrom (some r) rs
  | some p, r :: rs => (runOK r && runAfter p r) && validFrom (some r) rs
def validR (l : List Run) : Bool := validFrom none l
def before (l : List Run) (i : Nat) : Option Run := if i = 0 then none else l[i - 1]?
theorem before_zero (l : List Run) : before l 0 = none := rfl
theorem before_succ (l : List Run) (i : Nat) (h : i < l.length) : before l (i + 1) = some l[i] := by simp [before, h]
theorem validFrom_at (l : List Run) (i : Nat) (h : i < l.length) : validFrom (before l i) (l.drop i) = ((runOK l[i] && (match before l i with | none => true | some p => runAfter p l[i])) && validFrom (before l (i + 1)) (l.drop (i + 1))) := by
  rw [List.drop_eq_getElem_cons h, before_succ l i h]
  cases before l i with
  | none => simp [validFrom]
  | some p => rfl
theorem ival_j1 (l : List Run) (i k : Nat) (hl : l.length ≤ 9223372036854775807) (h : i < l.length) (b : Bool) :
    impl_isRegion.j1 (k + 1) l i l (l.length : Int) i b l[i].f0 l[i].f1 l[i].f2 = if b = true then some false else if (match before l i with | none => true | some p => runAfter p l[i]) = true then impl_isRegion.l0 k l l (l.length : Int) ((i + 1 : Nat) : Int) else some false := by
  simp only [impl_isRegion.j1]
  by_cases hb : b = true
  · rw [if_pos hb, if_pos hb]
  rw [if_neg hb, if_neg hb, w64n i (by omega)]
  cases i with
  | zero => simp [before]
  | succ i =>
    have e : ((i + 1 : Nat) : Int) - 1 = (i : Int) := by omega
    rw [if_neg (by omega), w64 (x := ((i + 1 : Nat) : Int) - 1) (by omega) (by omega), e, if_pos (by omega), if_pos (by omega), rdRun l i (by omega), before_succ l i (by omega)]
    simp only
    by_cases c1 : l[i + 1].f0 < l[i].f0
    · rw [if_pos c1, if_neg (by rw [runAfter_iff]; omega)]
    rw [if_neg c1]
    by_cases c2 : l[i + 1].f0 = l[i].f0
    · rw [if_pos c2]
      by_cases c3 : l[i + 1].f1 ≤ l[i].f2
      · rw [if_pos c3, if_neg (by rw [runAfter_iff]; omega)]
      · rw [if_neg c3, if_pos (by rw [runAfter_iff]; omega)]
    · rw [if_neg c2, if_pos (by rw [runAfter_iff]; omega)]
theorem impl_isRegion_eq (l : List Run) (hl : l.length ≤ 9223372036854775807) (k : Nat) (hk : 2 * l.length + 1 < k) : impl_isRegion.f k l = some (validR l) := by
  have key : ∀ d i k, i + d = l.length → 2 * d < k → impl_isRegion.l0 k l l (l.length : Int) (i : Int) = some (validFrom (before l i) (l.drop i)) := by
    intro d
    induction d with
    | zero =>
      intro i k hi hk
      obtain ⟨k, rfl⟩ : ∃ m, k = m + 1 := ⟨k - 1, by omega⟩
      simp only [impl_isRegion.l0]
      rw [if_neg (by omega), List.drop_of_length_le (by omega)]
      cases before l i <;> rfl
    | succ d ih =>
      intro i k hi hk
      obtain ⟨k, rfl⟩ : ∃ m, k = m + 1 + 1 := ⟨k - 2, by omega⟩
      have hlt : i < l.length := by omega
      have hn := ih (i + 1) k (by omega) (by omega)
      rw [validFrom_at l i hlt]
      simp only [impl_isRegion.l0]
      rw [if_pos (by omega), if_pos (by omega), rdRun l i hlt]
      simp only [if_pos (show (i : Int) < (l.length : Int) by omega), ival_j1 l i k hl hlt, hn]
      by_cases c : runOK l[i] = true
      · rw [c, Bool.true_and]
        rw [runOK_iff] at c
        rw [if_neg (by omega), if_neg (by omega), if_neg (by omega), if_neg (by omega), if_neg (by simp; omega)]
        cases (match before l i with | none => true | some p => runAfter p l[i]) <;> rfl
      · have hc := c
        rw [runOK_iff] at c
        simp only [Bool.not_eq_true] at hc
        rw [hc, Bool.false_and, Bool.false_and]
        try simp only [if_true]
        by_cases c1 : l[i].f0 < 0
        · rw [if_pos c1]
        rw [if_neg c1]
        by_cases c2 : l[i].f0 ≥ 16
        · rw [if_pos c2]
        rw [if_neg c2]
        by_cases c3 : l[i].f1 < 0
        · rw [if_pos c3]
        rw [if_neg c3]
        by_cases c4 : l[i].f2 ≤ l[i].f1
        · rw [if_pos c4]
        rw [if_neg c4, if_pos (by simp; omega)]
  unfold impl_isRegion.f
  have := key l.length 0 k (by omega) (by omega)
  simpa [before_zero, validR] using this
theorem validFrom_ok (l : List Run) : ∀ p, validFrom p l = true → ∀ r ∈ l, runOK r = true := by
  induction l with
  | nil => intro p _ r hr; cases hr
  | cons x xs ih =>
    intro p h r hr
    have h2 : runOK x = true ∧ validFrom (some x) xs = true := by
      cases p with
      | none => simpa [validFrom] using h
      | some p => simp [validFrom] at h; exact ⟨h.1.1, h.2⟩
    rcases List.mem_cons.1 hr with rfl | hr
    · exact h2.1
    · exact ih _ h2.2 r hr
theorem valid_ok {l : List Run} (h : validR l = true) : ∀ r ∈ l, runOK r = true := validFrom_ok l none h
theorem valid_ranges {l : List Run} (h : validR l = true) : ∀ r ∈ l, 0 ≤ r.f0 ∧ r.f0 < 16 ∧ 0 ≤ r.f1 ∧ r.f2 ≤ 16 := by
  intro r hr
  have := (runOK_iff r).1 (valid_ok h r hr)
  omega
end Go.Proofs.Ytnofkbbcbpjhfaa.Pure

/- impl.CombineRegions: the runs of the grid of the pixels for which a rule holds for two regions. -/
namespace Go.Proofs.Ytnofkbbcbpjhfaa.Q
open Go.RowKit Go.Proofs.YtnofkbbcbpjhfaaW.PrintWords Go.Proofs.YtnofkbbcbpjhfaaW.PrintLast Go.Proofs.YtnofkbbcbpjhfaaW.PrintMore
attribute [local go_sem] max2_int min2_int max_two min_two max_three min_three max_four min_four
set_option linter.unusedVariables false
set_option linter.unusedSimpArgs false
open Go.Proofs.Ytnofkbbcbpjhfaa.Pure

/-- the rule of a kind -/
def combB (k : Int) (p q : Bool) : Bool := if k = 0 then p || q else if k = 1 then p && q else if k = 2 then p && !q else p != q
def combG (k : Int) (g1 g2 : Nat → Bool) (x y : Nat) : Bool := combB k (g1 (y * 16 + x)) (g2 (y * 16 + x))
def impl_CombineRegions.f (l0 l1 : List S118) (k : Int) : Option (List S118 × Bool) :=
  some (if (validR l0 && validR l1 && decide (0 ≤ k ∧ k ≤ 3)) = true then (runsL (gso (combG k (gridF l0) (gridF l1)) 256), true) else ([], false))

set_option maxHeartbeats 800000 in
set_option maxRecDepth 100000 in
theorem comb_calls (g1 g2 : Nat → Bool) (k : Int) (hk : 0 ≤ k ∧ k ≤ 3) (x y : Nat) (hx : x < 16) (hy : y < 16) (B1 B2 B3 : Nat) (w : World)
    (h1 : GridAt w B1 g1) (h2 : GridAt w B2 g2) (h3 : w.heap[B3]? = some (.cells #[.int .i64 k] 3 (0, 0))) :
    Calls Try.prog 140 #[.int .i64 (x : Int), .int .i64 (y : Int), .pointer (some ⟨B1, 0, none⟩), .pointer (some ⟨B2, 0, none⟩), .pointer (some ⟨B3, 0, none⟩)] w fun e w' => e = .returned (.bool (combG k g1 g2 x y)) ∧ Below w.heap.size w w' := by
  have c1 := h1.cell (y * 16 + x) (by omega)
  have c2 := h2.cell (y * 16 + x) (by omega)
  have c3 : w.cell? ⟨B3, 0, none⟩ = some (.int .i64 k) := (blk_cell h3 0).trans rfl
  clear h1 h2 h3
  obtain rfl | rfl | rfl | rfl : k = 0 ∨ k = 1 ∨ k = 2 ∨ k = 3 := by omega
  all_goals clear hk
  all_goals
    cases hp : g1 (y * 16 + x) <;> cases hq : g2 (y * 16 + x) <;> rw [hp] at c1 <;> rw [hq] at c2
  all_goals
    have HE := Aside0.mk (show ∀ k, combG k g1 g2 x y = combB k (g1 (y * 16 + x)) (g2 (y * 16 + x)) from fun _ => rfl)
    rw [hp, hq] at HE
    clear hp hq
    go_enter Try.func140, Try.ntmps140
    go_wp2
    go_quiet (fail)
    go_wp2
    go_ret
    exact ⟨by rw [HE.out]; rfl, pw_below_drewN (Below.refl _ _) _⟩

theorem setRow_keep' {W : World} {k g : Nat} {o : Obj} (h : W.heap[k]? = some o) (cs : Array Value) (hk : k ≠ g) : (W.setRow g cs).heap[k]? = some o := (setRow_other W g k cs hk).trans h

set_option maxHeartbeats 800000 in
set_option maxRecDepth 100000 in
theorem impl_CombineRegions.calls (A0 : Option Addr) (c0 : Nat) (l0 : List S118) (A1 : Option Addr) (c1 : Nat) (l1 : List S118) (a2 : Int) (r1 : List S118) (r2 : Bool) (w : World) (hr0 : Kd.C k118 w A0 l0.length l0) (hc0 : l0.length ≤ c0) (hr1 : Kd.C k118 w A1 l1.length l1) (hc1 : l1.length ≤ c1) (h : impl_CombineRegions.f l0 l1 a2 = some (r1, r2)) :
    Calls Try.prog 100 #[.slice A0 l0.length c0, .slice A1 l1.length c1, .int .i64 a2] w fun e w' => ∃ v0_ : Value, e = .returned (.tuple #[v0_, .bool r2]) ∧ Kd.R k118 118 w' w.heap.size (fun _ => True) v0_ r1 ∧ Below w.heap.size w w' := by
  have h' := Option.some.inj h
  clear h
  have HB0 := Aside0.mk (below_alloc (Below.refl w.heap.size w) (.cells #[.int .i64 a2] 3))
  have HK := Aside0.mk (blk_new w (.cells #[.int .i64 a2] 3))
  have HR0 := Aside0.mk (Kd.C_below hr0 HB0.out)
  have HR1 := Aside0.mk (Kd.C_below hr1 HB0.out)
  have HC0 := Aside0.mk (fun W (hb : Below (w.alloc (.cells #[.int .i64 a2] 3)).heap.size (w.alloc (.cells #[.int .i64 a2] 3)) W) => impl_isRegion.calls (2 * l0.length + 2) A0 c0 l0 (validR l0) W (Kd.C_below HR0.out hb) hc0 (impl_isRegion_eq l0 hr0.2.1 _ (by omega)))
  have HC1 := Aside0.mk (fun W (hb : Below (w.alloc (.cells #[.int .i64 a2] 3)).heap.size (w.alloc (.cells #[.int .i64 a2] 3)) W) => impl_isRegion.calls (2 * l1.length + 2) A1 c1 l1 (validR l1) W (Kd.C_below HR1.out hb) hc1 (impl_isRegion_eq l1 hr1.2.1 _ (by omega)))
  have q0 := (blk_cell HK.out 0).trans (show (#[.int .i64 a2] : Array Value)[0]? = some (.int .i64 a2) from rfl)
  clear hr0 hr1
  by_cases hv0 : validR l0 = true
  · by_cases hv1 : validR l1 = true
    · by_cases hk : 0 ≤ a2 ∧ a2 ≤ 3
      · have HV0 := Aside0.mk (valid_ranges hv0)
        have HV1 := Aside0.mk (valid_ranges hv1)
        rw [hv0, hv1, decide_eq_true hk, if_pos (by rfl)] at h'
        obtain ⟨rfl, rfl⟩ := Prod.mk.inj h'
        clear h'
        rw [hv0] at HC0
        rw [hv1] at HC1
        clear hv0 hv1
        have d1 : decide (a2 < 0) = false := by simp; omega
        have d2 : decide (3 < a2) = false := by simp; omega
        have HH := Aside0.mk hk
        clear hk
        have z0 := zero66
        have HSZ := Aside0.mk (fun g : Nat → Bool => show (gc fun _ => false).size = (gc g).size by rw [gc_size, gc_size])
        have HO := Aside0.mk (fun g : Nat → Bool => gc_one g)
        have HI := Aside0.mk (fun g : Nat → Bool => show (Try.prog.info? 112).map (·.size) = some (gc g).size by rw [gc_size]; exact info66)
        go_enter Try.func100, Try.ntmps100
        go_wp2_with (first
          | (go_at_call 99; (with_reducible refine (HC0.out _ (Below.refl _ _)).mono ?_); rintro e w1 ⟨rfl, hb1⟩; have HB1 := Aside0.mk hb1; clear hb1)
          | (go_at_call 99; (with_reducible refine (HC1.out w1 HB1.out).mono ?_); rintro e w2 ⟨rfl, hb2⟩; have HB2 := Aside0.mk (below_then HB1.out HB1.out.size hb2); clear hb2; have q2 : w2.cell? ⟨w.heap.size, 0, none⟩ = some (.int .i64 a2) := (blk_cell (blk_below HK.out HB2.out) 0).trans rfl)
          | (go_at_call 139; (with_reducible refine (gridOf_calls _ _ l0 w2 (Kd.C_below HR0.out HB2.out) HV0.out).mono ?_); rintro e w3 ⟨rfl, hb3⟩; have HB3 := Aside0.mk (below_then HB2.out HB2.out.size hb3); clear hb3)
          | (go_at_call 139; (with_reducible refine (gridOf_calls _ _ l1 w3 (Kd.C_below HR1.out HB3.out) HV1.out).mono ?_); rintro e w4 ⟨rfl, hb4⟩; have HB4 := Aside0.mk (below_then HB3.out HB3.out.size hb4); clear hb4;
              have HK4 := Aside0.mk (setRow_keep' (setRow_keep' (blk_alloc (blk_alloc (blk_below HK.out HB4.out) (.cells (gc fun _ => false) 112)) (.cells (gc fun _ => false) 112)) (gc (gridF l0)) (show w.heap.size ≠ w4.heap.size by have := HB4.out.size; simp only [World.size_alloc] at this; omega)) (gc (gridF l1)) (show w.heap.size ≠ w4.heap.size + 1 by have := HB4.out.size; simp only [World.size_alloc] at this; omega));
              have HA4 : Aside0 (((w4.alloc (.cells (gc fun _ => false) 112)).alloc (.cells (gc fun _ => false) 112)).heap[w4.heap.size]? = some (.cells (gc fun _ => false) 112 (0, 0))) := Aside0.mk (blk_alloc (blk_new w4 (.cells (gc fun _ => false) 112)) (.cells (gc fun _ => false) 112));
              have HA5 : Aside0 ((((w4.alloc (.cells (gc fun _ => false) 112)).alloc (.cells (gc fun _ => false) 112)).setRow w4.heap.size (gc (gridF l0))).heap[w4.heap.size + 1]? = some (.cells (gc fun _ => false) 112 (0, 0))) := Aside0.mk (setRow_keep' (by have h := blk_new (w4.alloc (.cells (gc fun _ => false) 112)) (.cells (gc fun _ => false) 112); simp only [World.size_alloc] at h; exact h) (gc (gridF l0)) (by omega));
              have HG1 : Aside0 (GridAt ((((w4.alloc (.cells (gc fun _ => false) 112)).alloc (.cells (gc fun _ => false) 112)).setRow w4.heap.size (gc (gridF l0))).setRow (w4.heap.size + 1) (gc (gridF l1))) w4.heap.size (gridF l0)) := Aside0.mk (setRow_keep' (GridAt.setRow (g := fun _ => false) HA4.out (gridF l0)) (gc (gridF l1)) (by omega));
              have HG2 : Aside0 (GridAt ((((w4.alloc (.cells (gc fun _ => false) 112)).alloc (.cells (gc fun _ => false) 112)).setRow w4.heap.size (gc (gridF l0))).setRow (w4.heap.size + 1) (gc (gridF l1))) (w4.heap.size + 1) (gridF l1)) := Aside0.mk (GridAt.setRow (g := fun _ => false) HA5.out (gridF l1));
              have HB5 := Aside0.mk (below_setRow (below_setRow (below_alloc (below_alloc (below_then HB0.out HB0.out.size HB4.out) (.cells (gc fun _ => false) 112)) (.cells (gc fun _ => false) 112)) (show w.heap.size ≤ w4.heap.size from (below_then HB0.out HB0.out.size HB4.out).size) (gc (gridF l0))) (show w.heap.size ≤ w4.heap.size + 1 from Nat.le_succ_of_le (below_then HB0.out HB0.out.size HB4.out).size) (gc (gridF l1))))
          | ((with_reducible refine wpList_store_row rfl 112 (.tmp 8) (.tmp 27) rfl w4.heap.size (gc (gridF l0)) ?hx ?hy 112 (gc fun _ => false) HA4.out (HI.out _) (HSZ.out _) (HO.out _) ?_); (case hx => rfl); (case hy => rfl))
          | ((with_reducible refine wpList_store_row rfl 112 (.tmp 9) (.tmp 29) rfl (w4.heap.size + 1) (gc (gridF l1)) ?hx ?hy 112 (gc fun _ => false) HA5.out (HI.out _) (HSZ.out _) (HO.out _) ?_); (case hx => rfl); (case hy => rfl))
          | (go_at_call 95; refine (gridBy_calls 140 #[.pointer (some ⟨w4.heap.size, 0, none⟩), .pointer (some ⟨w4.heap.size + 1, 0, none⟩), .pointer (some ⟨w.heap.size, 0, none⟩)] (combG a2 (gridF l0) (gridF l1)) ((((w4.alloc (.cells (gc fun _ => false) 112)).alloc (.cells (gc fun _ => false) 112)).setRow w4.heap.size (gc (gridF l0))).setRow (w4.heap.size + 1) (gc (gridF l1))) (enters_of Try.func140 (by kernel_rfl) rfl) (fun W x y hx hy hW => comb_calls (gridF l0) (gridF l1) a2 HH.out x y hx hy _ _ _ W (HG1.out.below hW) (HG2.out.below hW) (blk_below HK4.out hW))).mono ?_; rintro e w5 ⟨rfl, hb5⟩; have HB6 := Aside0.mk (below_then HB5.out HB5.out.size hb5); clear hb5)
          | (go_at_call 98; refine (runs_calls _ _).mono ?_; rintro e w6 ⟨v6, rfl, hr6, hb6⟩; have HR6 := Aside0.mk (Kd.R_lower hr6 HB6.out.size); have HB7 := Aside0.mk (below_then HB6.out HB6.out.size hb6); clear hb6 hr6))
        go_ret2
        exact ⟨v6, rfl, HR6.out, HB7.out⟩
      · rw [hv0, hv1, decide_eq_false hk, if_neg (by decide)] at h'
        obtain ⟨rfl, rfl⟩ := Prod.mk.inj h'
        clear h'
        rw [hv0] at HC0
        rw [hv1] at HC1
        clear hv0 hv1
        by_cases hk0 : a2 < 0
        · have d1 : decide (a2 < 0) = true := by simp; omega
          clear hk hk0
          go_enter Try.func100, Try.ntmps100
          go_wp2_with (first
            | (go_at_call 99; (with_reducible refine (HC0.out _ (Below.refl _ _)).mono ?_); rintro e w1 ⟨rfl, hb1⟩; have HB1 := Aside0.mk hb1; clear hb1)
            | (go_at_call 99; (with_reducible refine (HC1.out w1 HB1.out).mono ?_); rintro e w2 ⟨rfl, hb2⟩; have HB2 := Aside0.mk (below_then HB1.out HB1.out.size hb2); clear hb2; have q2 : w2.cell? ⟨w.heap.size, 0, none⟩ = some (.int .i64 a2) := (blk_cell (blk_below HK.out HB2.out) 0).trans rfl))
          go_ret2
          exact ⟨_, rfl, Kd.R_nil _ _ _ _ _, below_then HB0.out HB0.out.size HB2.out⟩
        · have d1 : decide (a2 < 0) = false := by simp; omega
          have d2 : decide (3 < a2) = true := by simp; omega
          clear hk hk0
          go_enter Try.func100, Try.ntmps100
          go_wp2_with (first
            | (go_at_call 99; (with_reducible refine (HC0.out _ (Below.refl _ _)).mono ?_); rintro e w1 ⟨rfl, hb1⟩; have HB1 := Aside0.mk hb1; clear hb1)
            | (go_at_call 99; (with_reducible refine (HC1.out w1 HB1.out).mono ?_); rintro e w2 ⟨rfl, hb2⟩; have HB2 := Aside0.mk (below_then HB1.out HB1.out.size hb2); clear hb2; have q2 : w2.cell? ⟨w.heap.size, 0, none⟩ = some (.int .i64 a2) := (blk_cell (blk_below HK.out HB2.out) 0).trans rfl))
          go_ret2
          exact ⟨_, rfl, Kd.R_nil _ _ _ _ _, below_then HB0.out HB0.out.size HB2.out⟩
    · replace hv1 : validR l1 = false := by simpa using hv1
      rw [hv0, hv1, if_neg (by simp)] at h'
      obtain ⟨rfl, rfl⟩ := Prod.mk.inj h'
      clear h'
      rw [hv0] at HC0
      rw [hv1] at HC1
      clear hv0 hv1
      go_enter Try.func100, Try.ntmps100
      go_wp2_with (first
        | (go_at_call 99; (with_reducible refine (HC0.out _ (Below.refl _ _)).mono ?_); rintro e w1 ⟨rfl, hb1⟩; have HB1 := Aside0.mk hb1; clear hb1)
        | (go_at_call 99; (with_reducible refine (HC1.out w1 HB1.out).mono ?_); rintro e w2 ⟨rfl, hb2⟩; have HB2 := Aside0.mk (below_then HB1.out HB1.out.size hb2); clear hb2; have q2 : w2.cell? ⟨w.heap.size, 0, none⟩ = some (.int .i64 a2) := (blk_cell (blk_below HK.out HB2.out) 0).trans rfl))
      go_ret2
      exact ⟨_, rfl, Kd.R_nil _ _ _ _ _, below_then HB0.out HB0.out.size HB2.out⟩
  · replace hv0 : validR l0 = false := by simpa using hv0
    rw [hv0, if_neg (by simp)] at h'
    obtain ⟨rfl, rfl⟩ := Prod.mk.inj h'
    clear h'
    rw [hv0] at HC0
    clear hv0
    go_enter Try.func100, Try.ntmps100
    go_wp2_with (first
      | (go_at_call 99; (with_reducible refine (HC0.out _ (Below.refl _ _)).mono ?_); rintro e w1 ⟨rfl, hb1⟩; have HB1 := Aside0.mk hb1; clear hb1))
    go_ret2
    exact ⟨_, rfl, Kd.R_nil _ _ _ _ _, below_then HB0.out HB0.out.size HB1.out⟩
end Go.Proofs.Ytnofkbbcbpjhfaa.Q

namespace Go.Proofs.Ytnofkbbcbpjhfaa.Q
open Go.RowKit Go.Proofs.YtnofkbbcbpjhfaaW.PrintWords Go.Proofs.YtnofkbbcbpjhfaaW.PrintLast Go.Proofs.YtnofkbbcbpjhfaaW.PrintMore
attribute [local go_sem] max2_int min2_int max_two min_two max_three min_three max_four min_four
set_option linter.unusedVariables false
set_option linter.unusedSimpArgs false
/-! ### laws_combined: function 38 -/
def laws_combined.f (l0 : List (S118)) (l1 : List (S118)) (a2 : Int) : Option ((List (S118))) := (impl_CombineRegions.f l0 l1 a2).bind fun bt39001 => (some bt39001.1)
set_option maxHeartbeats 8000000 in
set_option maxRecDepth 100000 in
theorem laws_combined.calls (A0 : Option Addr) (c0 : Nat) (l0 : List (S118)) (A1 : Option Addr) (c1 : Nat) (l1 : List (S118)) (a2 : Int) (r : List (S118)) (w : World) (hr0 : Kd.C k118 w A0 l0.length l0) (hc0 : l0.length ≤ c0) (hr1 : Kd.C k118 w A1 l1.length l1) (hc1 : l1.length ≤ c1) (h : laws_combined.f l0 l1 a2 = some r) :
    Calls Try.prog 38 #[.slice A0 l0.length c0, .slice A1 l1.length c1, .int .i64 a2] w fun e w' => ∃ v0_ : Value, e = .returned (v0_) ∧ Kd.R k118 118 w' w.heap.size (fun _ => True) v0_ r ∧ Below w.heap.size w w' := by
  have HR0 := Aside0.mk hr0
  have HC0 := Aside0.mk hc0
  clear hr0 hc0
  have HR1 := Aside0.mk hr1
  have HC1 := Aside0.mk hc1
  clear hr1 hc1
  have HB := Aside0.mk (Below.refl w.heap.size w)
  have H : ((impl_CombineRegions.f l0 l1 a2).bind fun bt39001 => (some bt39001.1)) = some r := h
  clear h
  replace H := Option.bind_eq_some_iff.mp H
  obtain ⟨⟨t39001, t39002⟩, A40, H⟩ := H
  replace H : (some t39001) = some r := H
  have A4 := Aside0.mk A40
  clear A40
  obtain rfl := Option.some.inj H
  go_enter Try.func38, Try.ntmps38
  go_wp2_with (first | ((with_reducible refine gate_callee (f := 100) rfl ?_); refine goesL_ (some 13) rfl rfl Try.func100 (by kernel_rfl) rfl #[.slice A0 l0.length c0, .slice A1 l1.length c1, .int .i64 a2] rfl (by (try simp only [List.map_toArray, List.map_cons, List.map_nil]); first | done | rfl | (simp only [List.length_drop, List.length_take]; rfl)) ?_; (with_reducible refine (impl_CombineRegions.calls _ _ l0 _ _ l1 a2 t39001 t39002 _ ?side1 ?side2 ?side3 ?side4 A4.out).mono ?_); (case side1 => repeat (first | exact HR0.out | (with_reducible refine Kd.C_alloc ?_ _) | (with_reducible refine Kd.C_drewN ?_ _) | (with_reducible refine Kd.C_drew ?_))); (case side2 => exact HC0.out); (case side3 => repeat (first | exact HR1.out | (with_reducible refine Kd.C_alloc ?_ _) | (with_reducible refine Kd.C_drewN ?_ _) | (with_reducible refine Kd.C_drew ?_))); (case side4 => exact HC1.out); rintro e w5 ⟨v39003, rfl, ho0, hb⟩; refine ⟨_, rfl, ?_⟩; have n0_ := Aside0.mk (Kd.R_lower ho0 (below_size (by repeat (first | (with_reducible first | exact HB.out | apply below_alloc | apply pw_below_drewN | apply below_drew1) | exact HB.out)))); have n1_ := Aside0.mk (below_step (by repeat (first | (with_reducible first | exact HB.out | apply below_alloc | apply pw_below_drewN | apply below_drew1) | exact HB.out)) hb); clear HB; have HO39004 := n0_; have HB := n1_; clear n0_ n1_; (try clear hb); (try clear hb2); (try clear hk); (try clear hi); (try clear ho0)))
  go_ret
  exact ⟨_, by first | rfl | (simp [errW_none, errW_some] <;> rfl) | (simp [*, errW_none, errW_some] <;> rfl), by (with_reducible repeat (first | apply Kd.R_alloc | apply Kd.R_drewN | apply Kd.R_drew)); exact HO39004.out, by repeat (first | (with_reducible first | exact HB.out | apply below_alloc | apply pw_below_drewN | apply below_drew1) | exact HB.out)⟩

end Go.Proofs.Ytnofkbbcbpjhfaa.Q

namespace Go.Proofs.Ytnofkbbcbpjhfaa.Q
open Go.RowKit Go.Proofs.YtnofkbbcbpjhfaaW.PrintWords Go.Proofs.YtnofkbbcbpjhfaaW.PrintLast Go.Proofs.YtnofkbbcbpjhfaaW.PrintMore
attribute [local go_sem] max2_int min2_int max_two min_two max_three min_three max_four min_four
set_option linter.unusedVariables false
set_option linter.unusedSimpArgs false
/-! ### laws_FnTileBoxes: function 6 -/
mutual
def laws_FnTileBoxes.j0 : Nat → List (S47) → Bool → Int → Int → Int → List Int → Option (Bool)
  | 0, _, _, _, _, _, _ => none
  | k + 1, x4, x26, x7008000, x7008001, x7008002, x7008003 => if x26 = true then ((spec_TileBoxes.f k x7008000 x7008001 x7008002 x7008003).bind fun t7015 => ((laws_equalBoxes.f k x4 t7015).bind fun t7018 => (some t7018))) else (laws_FnTileBoxes.l0 k x4 (([] : List (S118))) 0 0 x7008000 x7008001 x7008002 x7008003)
def laws_FnTileBoxes.l0 : Nat → List (S47) → List (S118) → Int → Int → Int → Int → Int → List Int → Option (Bool)
  | 0, _, _, _, _, _, _, _, _ => none
  | k + 1, x4, x5, x6, x7, x7008000, x7008001, x7008002, x7008003 => if x7 < (x4.length : Int) then (if 0 ≤ x7 then ((impl_BoxRegion.f ((rd_T47 x4 x7).f0) ((rd_T47 x4 x7).f1) ((rd_T47 x4 x7).f2) ((rd_T47 x4 x7).f3)).bind fun bt7024 => (if bt7024.2 = true then (if ((rd_T47 x4 x7).f2) > 4 then (laws_FnTileBoxes.j2 k x4 x5 x6 x7 bt7024.1 true x7008000 x7008001 x7008002 x7008003) else (laws_FnTileBoxes.j2 k x4 x5 x6 x7 bt7024.1 (decide (((rd_T47 x4 x7).f3) > 4)) x7008000 x7008001 x7008002 x7008003)) else (laws_FnTileBoxes.j2 k x4 x5 x6 x7 bt7024.1 true x7008000 x7008001 x7008002 x7008003))) else (none)) else (if x6 = (wrap64 (x7008000 * x7008001)) then ((impl_AreaOf.f k x5).bind fun t7022 => (some (t7022 == x6))) else (some false))
def laws_FnTileBoxes.j2 : Nat → List (S47) → List (S118) → Int → Int → List (S118) → Bool → Int → Int → Int → List Int → Option (Bool)
  | 0, _, _, _, _, _, _, _, _, _, _ => none
  | k + 1, x4, x5, x6, x7, x8, x63, x7008000, x7008001, x7008002, x7008003 => if x63 = true then (some false) else ((impl_AreaOf.f k x8).bind fun t7030 => ((laws_combined.f x5 x8 0).bind fun t7031 => (laws_FnTileBoxes.l0 k x4 t7031 (wrap64 (x6 + t7030)) (wrap64 (x7 + 1)) x7008000 x7008001 x7008002 x7008003)))
end
def laws_FnTileBoxes.f (k : Nat) (l0 : List Int) : Option (Bool) := if (l0.length : Int) > 1048576 then (some true) else ((spec_DrawTileBoxes.f k l0).bind fun bt7001 => ((impl_TileBoxes.f k bt7001.1 bt7001.2.1 bt7001.2.2.1 bt7001.2.2.2).bind fun t7008 => ((spec_TileBoxes.f k bt7001.1 bt7001.2.1 bt7001.2.2.1 bt7001.2.2.2).bind fun t7011 => ((laws_equalBoxes.f k t7008 t7011).bind fun t7014 => (if t7014 = true then (laws_FnTileBoxes.j0 k t7008 ((t7008.length : Int) == 0) bt7001.1 bt7001.2.1 bt7001.2.2.1 bt7001.2.2.2) else (laws_FnTileBoxes.j0 k t7008 true bt7001.1 bt7001.2.1 bt7001.2.2.1 bt7001.2.2.2))))))
theorem laws_FnTileBoxes.mono_l : ∀ k, (∀ y0 y1 y2 y3 y4 y5, LeO (laws_FnTileBoxes.j0 k y0 y1 y2 y3 y4 y5) (laws_FnTileBoxes.j0 (k + 1) y0 y1 y2 y3 y4 y5)) ∧ (∀ y0 y1 y2 y3 y4 y5 y6 y7, LeO (laws_FnTileBoxes.l0 k y0 y1 y2 y3 y4 y5 y6 y7) (laws_FnTileBoxes.l0 (k + 1) y0 y1 y2 y3 y4 y5 y6 y7)) ∧ (∀ y0 y1 y2 y3 y4 y5 y6 y7 y8 y9, LeO (laws_FnTileBoxes.j2 k y0 y1 y2 y3 y4 y5 y6 y7 y8 y9) (laws_FnTileBoxes.j2 (k + 1) y0 y1 y2 y3 y4 y5 y6 y7 y8 y9))
  | 0 => ⟨fun _ _ _ _ _ _ r h => by simp [laws_FnTileBoxes.j0] at h, fun _ _ _ _ _ _ _ _ r h => by simp [laws_FnTileBoxes.l0] at h, fun _ _ _ _ _ _ _ _ _ _ r h => by simp [laws_FnTileBoxes.j2] at h⟩
  | k + 1 => by
    obtain ⟨ih0, ih1, ih2⟩ := laws_FnTileBoxes.mono_l k
    refine ⟨?_, ?_, ?_⟩
    · intro y0 y1 y2 y3 y4 y5
      unfold laws_FnTileBoxes.j0
      repeat' first
      | (with_reducible exact ih0 _ _ _ _ _ _)
      | (with_reducible exact ih1 _ _ _ _ _ _ _ _)
      | (with_reducible exact ih2 _ _ _ _ _ _ _ _ _ _)
      | (with_reducible exact impl_AreaOf.mono _ _)
      | (with_reducible exact impl_TileBoxes.mono _ _ _ _ _)
      | (with_reducible exact laws_equalBoxes.mono _ _ _)
      | (with_reducible exact spec_DrawTileBoxes.mono _ _)
      | (with_reducible exact spec_TileBoxes.mono _ _ _ _ _)
      | (with_reducible exact LeO.refl _)
      | (with_reducible exact LeO.none _)
      | (with_reducible refine LeO.ite ?_ ?_)
      | (with_reducible refine LeO.bind ?_ (fun _ => ?_))
      | exact ih0 _ _ _ _ _ _
      | exact ih1 _ _ _ _ _ _ _ _
      | exact ih2 _ _ _ _ _ _ _ _ _ _
      | exact impl_AreaOf.mono _ _
      | exact impl_TileBoxes.mono _ _ _ _ _
      | exact laws_equalBoxes.mono _ _ _
      | exact spec_DrawTileBoxes.mono _ _
      | exact spec_TileBoxes.mono _ _ _ _ _
      | exact LeO.none _
      | refine LeO.ite ?_ ?_
      | refine LeO.bind ?_ (fun _ => ?_)
    · intro y0 y1 y2 y3 y4 y5 y6 y7
      unfold laws_FnTileBoxes.l0
      repeat' first
      | (with_reducible exact ih0 _ _ _ _ _ _)
      | (with_reducible exact ih1 _ _ _ _ _ _ _ _)
      | (with_reducible exact ih2 _ _ _ _ _ _ _ _ _ _)
      | (with_reducible exact impl_AreaOf.mono _ _)
      | (with_reducible exact impl_TileBoxes.mono _ _ _ _ _)
      | (with_reducible exact laws_equalBoxes.mono _ _ _)
      | (with_reducible exact spec_DrawTileBoxes.mono _ _)
      | (with_reducible exact spec_TileBoxes.mono _ _ _ _ _)
      | (with_reducible exact LeO.refl _)
      | (with_reducible exact LeO.none _)
      | (with_reducible refine LeO.ite ?_ ?_)
      | (with_reducible refine LeO.bind ?_ (fun _ => ?_))
      | exact ih0 _ _ _ _ _ _
      | exact ih1 _ _ _ _ _ _ _ _
      | exact ih2 _ _ _ _ _ _ _ _ _ _
      | exact impl_AreaOf.mono _ _
      | exact impl_TileBoxes.mono _ _ _ _ _
      | exact laws_equalBoxes.mono _ _ _
      | exact spec_DrawTileBoxes.mono _ _
      | exact spec_TileBoxes.mono _ _ _ _ _
      | exact LeO.none _
      | refine LeO.ite ?_ ?_
      | refine LeO.bind ?_ (fun _ => ?_)
    · intro y0 y1 y2 y3 y4 y5 y6 y7 y8 y9
      unfold laws_FnTileBoxes.j2
      repeat' first
      | (with_reducible exact ih0 _ _ _ _ _ _)
      | (with_reducible exact ih1 _ _ _ _ _ _ _ _)
      | (with_reducible exact ih2 _ _ _ _ _ _ _ _ _ _)
      | (with_reducible exact impl_AreaOf.mono _ _)
      | (with_reducible exact impl_TileBoxes.mono _ _ _ _ _)
      | (with_reducible exact laws_equalBoxes.mono _ _ _)
      | (with_reducible exact spec_DrawTileBoxes.mono _ _)
      | (with_reducible exact spec_TileBoxes.mono _ _ _ _ _)
      | (with_reducible exact LeO.refl _)
      | (with_reducible exact LeO.none _)
      | (with_reducible refine LeO.ite ?_ ?_)
      | (with_reducible refine LeO.bind ?_ (fun _ => ?_))
      | exact ih0 _ _ _ _ _ _
      | exact ih1 _ _ _ _ _ _ _ _
      | exact ih2 _ _ _ _ _ _ _ _ _ _
      | exact impl_AreaOf.mono _ _
      | exact impl_TileBoxes.mono _ _ _ _ _
      | exact laws_equalBoxes.mono _ _ _
      | exact spec_DrawTileBoxes.mono _ _
      | exact spec_TileBoxes.mono _ _ _ _ _
      | exact LeO.none _
      | refine LeO.ite ?_ ?_
      | refine LeO.bind ?_ (fun _ => ?_)
theorem laws_FnTileBoxes.mono : ∀ a0 k, LeO (laws_FnTileBoxes.f k a0) (laws_FnTileBoxes.f (k + 1) a0) := by
  intro a0 k
  obtain ⟨ih0, ih1, ih2⟩ := laws_FnTileBoxes.mono_l k
  unfold laws_FnTileBoxes.f
  repeat' first
      | (with_reducible exact ih0 _ _ _ _ _ _)
      | (with_reducible exact ih1 _ _ _ _ _ _ _ _)
      | (with_reducible exact ih2 _ _ _ _ _ _ _ _ _ _)
      | (with_reducible exact impl_AreaOf.mono _ _)
      | (with_reducible exact impl_TileBoxes.mono _ _ _ _ _)
      | (with_reducible exact laws_equalBoxes.mono _ _ _)
      | (with_reducible exact spec_DrawTileBoxes.mono _ _)
      | (with_reducible exact spec_TileBoxes.mono _ _ _ _ _)
      | (with_reducible exact LeO.refl _)
      | (with_reducible exact LeO.none _)
      | (with_reducible refine LeO.ite ?_ ?_)
      | (with_reducible refine LeO.bind ?_ (fun _ => ?_))
      | exact ih0 _ _ _ _ _ _
      | exact ih1 _ _ _ _ _ _ _ _
      | exact ih2 _ _ _ _ _ _ _ _ _ _
      | exact impl_AreaOf.mono _ _
      | exact impl_TileBoxes.mono _ _ _ _ _
      | exact laws_equalBoxes.mono _ _ _
      | exact spec_DrawTileBoxes.mono _ _
      | exact spec_TileBoxes.mono _ _ _ _ _
      | exact LeO.none _
      | refine LeO.ite ?_ ?_
      | refine LeO.bind ?_ (fun _ => ?_)
set_option maxHeartbeats 8000000 in
set_option maxRecDepth 100000 in
theorem laws_FnTileBoxes.calls (k : Nat) (A0 : Option Addr) (c0 : Nat) (l0 : List Int) (r : Bool) (w : World) (hr0 : Kd.C (Kd.int .u8) w A0 l0.length l0) (hc0 : l0.length ≤ c0) (h : laws_FnTileBoxes.f k l0 = some r) (hrt : r = true) :
    Calls Try.prog 6 #[.slice A0 l0.length c0] w fun e w' => e = .returned (.bool r) ∧ Below w.heap.size w w' := by
  have HRT := Aside0.mk hrt
  clear hrt
  have hu27 := Try.underlying27
  have hu47 := Try.underlying47
  have HR0 := Aside0.mk hr0
  have HC0 := Aside0.mk hc0
  clear hr0 hc0
  have HB := Aside0.mk (Below.refl w.heap.size w)
  have H : (if (l0.length : Int) > 1048576 then (some true) else ((spec_DrawTileBoxes.f k l0).bind fun bt7001 => ((impl_TileBoxes.f k bt7001.1 bt7001.2.1 bt7001.2.2.1 bt7001.2.2.2).bind fun t7008 => ((spec_TileBoxes.f k bt7001.1 bt7001.2.1 bt7001.2.2.1 bt7001.2.2.2).bind fun t7011 => ((laws_equalBoxes.f k t7008 t7011).bind fun t7014 => (if t7014 = true then (laws_FnTileBoxes.j0 k t7008 ((t7008.length : Int) == 0) bt7001.1 bt7001.2.1 bt7001.2.2.1 bt7001.2.2.2) else (laws_FnTileBoxes.j0 k t7008 true bt7001.1 bt7001.2.1 bt7001.2.2.1 bt7001.2.2.2))))))) = some r := h
  clear h
  by_cases c2 : (l0.length : Int) > 1048576
  · rw [if_pos c2] at H
    have c2b0 : decide (1048576 < (l0.length : Int)) = true := decide_eq_true c2
    have c2b1 : decide (1048576 < l0.length) = true := decide_eq_true (by omega)
    clear c2
    obtain rfl := Option.some.inj H
    go_enter Try.func6, Try.ntmps6
    go_wp2
    go_ret
    exact ⟨by first | rfl | (simp [errW_none, errW_some] <;> rfl) | (simp [*, errW_none, errW_some] <;> rfl), by repeat (first | (with_reducible first | exact HB.out | apply below_alloc | apply pw_below_drewN | apply below_drew1) | exact HB.out)⟩
  · rw [if_neg c2] at H
    have c2b0 : decide (1048576 < (l0.length : Int)) = false := decide_eq_false c2
    have c2b1 : decide (1048576 < l0.length) = false := decide_eq_false (by omega)
    clear c2
    replace H := Option.bind_eq_some_iff.mp H
    obtain ⟨⟨t7001, t7002, t7003, t7004⟩, A30, H⟩ := H
    replace H : ((impl_TileBoxes.f k t7001 t7002 t7003 t7004).bind fun t7008 => ((spec_TileBoxes.f k t7001 t7002 t7003 t7004).bind fun t7011 => ((laws_equalBoxes.f k t7008 t7011).bind fun t7014 => (if t7014 = true then (laws_FnTileBoxes.j0 k t7008 ((t7008.length : Int) == 0) t7001 t7002 t7003 t7004) else (laws_FnTileBoxes.j0 k t7008 true t7001 t7002 t7003 t7004))))) = some r := H
    have A3 := Aside0.mk A30
    clear A30
    replace H := Option.bind_eq_some_iff.mp H
    obtain ⟨t7008, A40, H⟩ := H
    replace H : ((spec_TileBoxes.f k t7001 t7002 t7003 t7004).bind fun t7011 => ((laws_equalBoxes.f k t7008 t7011).bind fun t7014 => (if t7014 = true then (laws_FnTileBoxes.j0 k t7008 ((t7008.length : Int) == 0) t7001 t7002 t7003 t7004) else (laws_FnTileBoxes.j0 k t7008 true t7001 t7002 t7003 t7004)))) = some r := H
    have A4 := Aside0.mk A40
    clear A40
    have HC5 := Aside0.mk H
    clear H
    go_enter Try.func6, Try.ntmps6
    go_upto_region 5 with (first | ((with_reducible refine gate_callee (f := 34) rfl ?_); refine goesL_ (some 14) rfl rfl Try.func34 (by kernel_rfl) rfl #[.slice A0 l0.length c0] rfl (by (try simp only [List.map_toArray, List.map_cons, List.map_nil]); first | done | rfl | (simp only [List.length_drop, List.length_take]; rfl)) ?_; (with_reducible refine (spec_DrawTileBoxes.calls k _ _ l0 t7001 t7002 t7003 t7004 _ ?side1 ?side2 A3.out).mono ?_); (case side1 => repeat (first | exact HR0.out | (with_reducible refine Kd.C_alloc ?_ _) | (with_reducible refine Kd.C_drewN ?_ _) | (with_reducible refine Kd.C_drew ?_))); (case side2 => exact HC0.out); rintro e w6 ⟨v7005, rfl, ho0, hb⟩; refine ⟨_, rfl, ?_⟩; have n0_ := Aside0.mk (Kd.Q_lower ho0 (below_size (by repeat (first | (with_reducible first | exact HB.out | apply below_alloc | apply pw_below_drewN | apply below_drew1) | exact HB.out)))); have n1_ := Aside0.mk (below_step (by repeat (first | (with_reducible first | exact HB.out | apply below_alloc | apply pw_below_drewN | apply below_drew1) | exact HB.out)) hb); clear HB; have HO7006 := n0_; have HB := n1_; clear n0_ n1_; (try clear hb); (try clear hb2); (try clear hk); (try clear hi); (try clear ho0)) | ((with_reducible refine gate_dst (N := 3) rfl ?_); (try (refine gate_guard (by rfl) ?_; dsimp only)); refine box_event ?hg (N := 3) ?hd (cs := #[.int .i64 0, .int .i64 0, .int .i64 0, .slice none 0 0]) (t := 27) ?hr ?_; (case hd => rfl); (case hg => rfl); (case hr => first | (go_simp; done) | (go_simp; rfl)); intro gb7007 hg w7 hbox hb; have n0_ := Aside0.mk (Kd.Q_below (by (with_reducible repeat (first | apply Kd.Q_alloc | apply Kd.Q_drewN | apply Kd.Q_drew)); exact HO7006.out) hb); have n1_ := Aside0.mk (below_step (by repeat (first | (with_reducible first | exact HB.out | apply below_alloc | apply pw_below_drewN | apply below_drew1) | exact HB.out)) hb); have n2_ := Aside0.mk (hbox); have n3_ := Aside0.mk ((by rw [hg]; exact (below_size (by repeat (first | (with_reducible first | exact HB.out | apply below_alloc | apply pw_below_drewN | apply below_drew1) | exact HB.out))) : w.heap.size ≤ gb7007)); have n4_ := Aside0.mk ((by rw [hg]; exact (below_size (by repeat (first | (with_reducible first | exact HB.out | apply below_alloc | apply pw_below_drewN | apply below_drew1) | exact HB.out))) : w.heap.size ≤ gb7007)); clear HO7006; clear HB; have HO7006 := n0_; have HB := n1_; have BK7007 := n2_; have GW7007 := n3_; have GE7007 := n4_; clear n0_ n1_ n2_ n3_ n4_; clear hb hbox hg; have hcz8_0 : w7.cell? ⟨gb7007, 0, none⟩ = some (.int .i64 0) := (blk_cell BK7007.out 0).trans rfl; have hcz8_1 : w7.cell? ⟨gb7007, 1, none⟩ = some (.int .i64 0) := (blk_cell BK7007.out 1).trans rfl; have hcz8_2 : w7.cell? ⟨gb7007, 2, none⟩ = some (.int .i64 0) := (blk_cell BK7007.out 2).trans rfl; have hcz8_3 : w7.cell? ⟨gb7007, 3, none⟩ = some (.slice none 0 0) := (blk_cell BK7007.out 3).trans rfl; have hfz8_0 := blk_frozen BK7007.out 0; have hfz8_1 := blk_frozen BK7007.out 1; have hfz8_2 := blk_frozen BK7007.out 2; have hfz8_3 := blk_frozen BK7007.out 3; obtain ⟨Ao9, co9, eo9, _⟩ := Kd.Q_slice HO7006.out; subst eo9) | ((with_reducible refine gate_callee (f := 29) rfl ?_); refine goesL_ (some 16) rfl rfl Try.func29 (by kernel_rfl) rfl #[.agg #[.int .i64 t7001, .int .i64 t7002, .int .i64 t7003, .slice Ao9 t7004.length co9]] rfl (by (try simp only [List.map_toArray, List.map_cons, List.map_nil]); first | done | rfl | (simp only [List.length_drop, List.length_take]; rfl)) ?_; (with_reducible refine (impl_TileBoxes.calls k t7001 t7002 t7003 _ _ t7004 t7008 _ ?side1 ?side2 A4.out).mono ?_); (case side1 => refine (Kd.Q_reads' (e := 3) (base := w.heap.size) (ok := fun k_ => True) (n := t7004.length) (c := co9) ?_).2.2; exact (by (with_reducible repeat (first | apply Kd.Q_alloc | apply Kd.Q_drewN | apply Kd.Q_drew)); exact (Kd.Q_mono (Kd.Q_far (p := ⟨gb7007, 3, none⟩) (Kd.Q_far (p := ⟨gb7007, 2, none⟩) (Kd.Q_far (p := ⟨gb7007, 1, none⟩) (Kd.Q_far (p := ⟨gb7007, 0, none⟩) (Kd.Q_types HO7006.out BK7007.out (by decide)) (fun _ hk => hk.2) (.int .i64 t7001)) (fun _ hk => hk.2) (.int .i64 t7002)) (fun _ hk => hk.2) (.int .i64 t7003)) (fun _ hk => hk.2) (.slice Ao9 t7004.length co9)) (fun _ h_ => h_.1)))); (case side2 => exact (Kd.Q_reads' HO7006.out).2.1); rintro e w10 ⟨v7009, rfl, ho0, hb⟩; refine ⟨_, rfl, ?_⟩; have n0_ := Aside0.mk (Kd.Q_below (by (with_reducible repeat (first | apply Kd.Q_alloc | apply Kd.Q_drewN | apply Kd.Q_drew)); exact (Kd.Q_mono (Kd.Q_far (p := ⟨gb7007, 3, none⟩) (Kd.Q_far (p := ⟨gb7007, 2, none⟩) (Kd.Q_far (p := ⟨gb7007, 1, none⟩) (Kd.Q_far (p := ⟨gb7007, 0, none⟩) (Kd.Q_types HO7006.out BK7007.out (by decide)) (fun _ hk => hk.2) (.int .i64 t7001)) (fun _ hk => hk.2) (.int .i64 t7002)) (fun _ hk => hk.2) (.int .i64 t7003)) (fun _ hk => hk.2) (.slice Ao9 t7004.length co9)) (fun _ h_ => h_.1))) hb); have n1_ := Aside0.mk (Kd.R_lower ho0 (below_size (by repeat (first | (with_reducible first | exact HB.out | apply below_alloc | apply pw_below_drewN | apply below_drew1 | refine below_set ?_ GE7007.out) | exact HB.out)))); have n2_ := Aside0.mk (blk_below (g := gb7007) (o := .cells #[.int .i64 t7001, .int .i64 t7002, .int .i64 t7003, .slice Ao9 t7004.length co9] 27 (0, 0)) (by (with_reducible repeat (first | refine blk_drewN ?_ _ | refine blk_drew ?_ | refine blk_alloc ?_ _)); refine blk_put (cs := #[.int .i64 t7001, .int .i64 t7002, .int .i64 t7003, .slice none 0 0]) ?_ 3 _ rfl; (with_reducible repeat (first | refine blk_drewN ?_ _ | refine blk_drew ?_ | refine blk_alloc ?_ _)); refine blk_put (cs := #[.int .i64 t7001, .int .i64 t7002, .int .i64 0, .slice none 0 0]) ?_ 2 _ rfl; (with_reducible repeat (first | refine blk_drewN ?_ _ | refine blk_drew ?_ | refine blk_alloc ?_ _)); refine blk_put (cs := #[.int .i64 t7001, .int .i64 0, .int .i64 0, .slice none 0 0]) ?_ 1 _ rfl; (with_reducible repeat (first | refine blk_drewN ?_ _ | refine blk_drew ?_ | refine blk_alloc ?_ _)); refine blk_put (cs := #[.int .i64 0, .int .i64 0, .int .i64 0, .slice none 0 0]) ?_ 0 _ rfl; (with_reducible repeat (first | refine blk_drewN ?_ _ | refine blk_drew ?_ | refine blk_alloc ?_ _)); exact BK7007.out) hb); have n3_ := Aside0.mk (below_step (by repeat (first | (with_reducible first | exact HB.out | apply below_alloc | apply pw_below_drewN | apply below_drew1 | refine below_set ?_ GE7007.out) | exact HB.out)) hb); clear HO7006; clear BK7007; clear HB; have HO7006 := n0_; have HO7010 := n1_; have BK7007 := n2_; have HB := n3_; clear n0_ n1_ n2_ n3_; (try clear hb); (try clear hb2); (try clear hk); (try clear hi); (try clear ho0)))
    (try simp only [Act.put, List.setIfInBounds_toArray, List.set_cons_zero, List.set_cons_succ])
    go_cut [26] (fun v26 wc => ∃ (kq : Nat) (x26_4 : Bool), v26 = .bool x26_4 ∧ Aside0 (laws_FnTileBoxes.j0 kq t7008 x26_4 t7001 t7002 t7003 t7004 = some r) ∧ Aside0 (kq ≤ k) ∧ Aside0 (Kd.R k47 47 wc w.heap.size (fun _ => True) v7009 t7008) ∧ Aside0 (Kd.Q (Kd.int .i64) 3 wc w.heap.size (fun _ => True) (.slice Ao9 t7004.length co9) t7004) ∧ Aside0 (wc.heap[gb7007]? = some (.cells #[.int .i64 t7001, .int .i64 t7002, .int .i64 t7003, (.slice Ao9 t7004.length co9)] 27 (0, 0))) ∧ Aside0 (Below w.heap.size w wc))
    case first =>
      have H := HC5.out
      clear HC5
      replace H := Option.bind_eq_some_iff.mp H
      obtain ⟨t7011, A110, H⟩ := H
      replace H : ((laws_equalBoxes.f k t7008 t7011).bind fun t7014 => (if t7014 = true then (laws_FnTileBoxes.j0 k t7008 ((t7008.length : Int) == 0) t7001 t7002 t7003 t7004) else (laws_FnTileBoxes.j0 k t7008 true t7001 t7002 t7003 t7004))) = some r := H
      have A11 := Aside0.mk A110
      clear A110
      replace H := Option.bind_eq_some_iff.mp H
      obtain ⟨t7014, A120, H⟩ := H
      replace H : (if t7014 = true then (laws_FnTileBoxes.j0 k t7008 ((t7008.length : Int) == 0) t7001 t7002 t7003 t7004) else (laws_FnTileBoxes.j0 k t7008 true t7001 t7002 t7003 t7004)) = some r := H
      have A12 := Aside0.mk A120
      clear A120
      by_cases c13 : t7014 = true
      · subst c13
        have H1 : (laws_FnTileBoxes.j0 k t7008 ((t7008.length : Int) == 0) t7001 t7002 t7003 t7004) = some r := by rw [if_pos rfl] at H; exact H
        clear H
        have H := H1
        clear H1
        have H' := Aside0.mk H
        clear H
        have hcz14_0 : w10.cell? ⟨gb7007, 0, none⟩ = some (.int .i64 t7001) := (blk_cell BK7007.out 0).trans rfl
        have hcz14_1 : w10.cell? ⟨gb7007, 1, none⟩ = some (.int .i64 t7002) := (blk_cell BK7007.out 1).trans rfl
        have hcz14_2 : w10.cell? ⟨gb7007, 2, none⟩ = some (.int .i64 t7003) := (blk_cell BK7007.out 2).trans rfl
        have hcz14_3 : w10.cell? ⟨gb7007, 3, none⟩ = some (.slice Ao9 t7004.length co9) := (blk_cell BK7007.out 3).trans rfl
        have hfz14_0 := blk_frozen BK7007.out 0
        have hfz14_1 := blk_frozen BK7007.out 1
        have hfz14_2 := blk_frozen BK7007.out 2
        have hfz14_3 := blk_frozen BK7007.out 3
        go_wp2_with (first | ((with_reducible refine gate_callee (f := 28) rfl ?_); refine goesL_ (some 19) rfl rfl Try.func28 (by kernel_rfl) rfl #[.agg #[.int .i64 t7001, .int .i64 t7002, .int .i64 t7003, .slice Ao9 t7004.length co9]] rfl (by (try simp only [List.map_toArray, List.map_cons, List.map_nil]); first | done | rfl | (simp only [List.length_drop, List.length_take]; rfl)) ?_; (with_reducible refine (spec_TileBoxes.calls k t7001 t7002 t7003 _ _ t7004 t7011 _ ?side1 ?side2 A11.out).mono ?_); (case side1 => repeat (first | exact (Kd.Q_reads' HO7006.out).2.2 | (with_reducible refine Kd.C_alloc ?_ _) | (with_reducible refine Kd.C_drewN ?_ _) | (with_reducible refine Kd.C_drew ?_))); (case side2 => exact (Kd.Q_reads' HO7006.out).2.1); rintro e w15 ⟨v7012, rfl, ho0, hb⟩; refine ⟨_, rfl, ?_⟩; have n0_ := Aside0.mk (Kd.Q_below (by (with_reducible repeat (first | apply Kd.Q_alloc | apply Kd.Q_drewN | apply Kd.Q_drew)); exact HO7006.out) hb); have n1_ := Aside0.mk (Kd.R_elder' (by (with_reducible repeat (first | apply Kd.R_alloc | apply Kd.R_drewN | apply Kd.R_drew)); exact HO7010.out) (Kd.R_base ho0) hb); have n2_ := Aside0.mk (Kd.R_lower (Kd.R_new' ho0 (Kd.R_lt (by (with_reducible repeat (first | apply Kd.R_alloc | apply Kd.R_drewN | apply Kd.R_drew)); exact HO7010.out))) (below_size (by repeat (first | (with_reducible first | exact HB.out | apply below_alloc | apply pw_below_drewN | apply below_drew1 | refine below_set ?_ GE7007.out) | exact HB.out)))); have n3_ := Aside0.mk (blk_below (g := gb7007) (o := .cells #[.int .i64 t7001, .int .i64 t7002, .int .i64 t7003, .slice Ao9 t7004.length co9] 27 (0, 0)) (by (with_reducible repeat (first | refine blk_drewN ?_ _ | refine blk_drew ?_ | refine blk_alloc ?_ _)); exact BK7007.out) hb); have n4_ := Aside0.mk (below_step (by repeat (first | (with_reducible first | exact HB.out | apply below_alloc | apply pw_below_drewN | apply below_drew1 | refine below_set ?_ GE7007.out) | exact HB.out)) hb); clear HO7006; clear HO7010; clear BK7007; clear HB; have HO7006 := n0_; have HO7010 := n1_; have HO7013 := n2_; have BK7007 := n3_; have HB := n4_; clear n0_ n1_ n2_ n3_ n4_; (try clear hb); (try clear hb2); (try clear hk); (try clear hi); (try clear ho0); obtain ⟨Ao16, co16, eo16⟩ := Kd.R_slice HO7010.out; subst eo16; obtain ⟨Ao17, co17, eo17⟩ := Kd.R_slice HO7013.out; subst eo17) | ((with_reducible refine gate_callee (f := 35) rfl ?_); refine goesL_ (some 20) rfl rfl Try.func35 (by kernel_rfl) rfl #[.slice Ao16 t7008.length co16, .slice Ao17 t7011.length co17] rfl (by (try simp only [List.map_toArray, List.map_cons, List.map_nil]); first | done | rfl | (simp only [List.length_drop, List.length_take]; rfl)) ?_; (with_reducible refine (laws_equalBoxes.calls k _ _ t7008 _ _ t7011 true _ ?side1 ?side2 ?side3 ?side4 A12.out).mono ?_); (case side1 => repeat (first | exact (Kd.R_reads' HO7010.out).2.2 | (with_reducible refine Kd.C_alloc ?_ _) | (with_reducible refine Kd.C_drewN ?_ _) | (with_reducible refine Kd.C_drew ?_))); (case side2 => exact (Kd.R_reads' HO7010.out).2.1); (case side3 => repeat (first | exact (Kd.R_reads' HO7013.out).2.2 | (with_reducible refine Kd.C_alloc ?_ _) | (with_reducible refine Kd.C_drewN ?_ _) | (with_reducible refine Kd.C_drew ?_))); (case side4 => exact (Kd.R_reads' HO7013.out).2.1); rintro e w' ⟨rfl, ⟨nd, rfl⟩⟩; refine ⟨_, rfl, ?_⟩))
        go_meet
        case rel => exact ⟨_, (((t7008.length : Int) == 0)), (by first | rfl | (simp; done) | (simp [*]; done)), H', ⟨by first | omega | exact Nat.le_refl _⟩, ⟨by (with_reducible repeat (first | apply Kd.R_alloc | apply Kd.R_drewN | apply Kd.R_drew)); exact Kd.R_mono HO7010.out (fun _ hk => trivial)⟩, ⟨by (with_reducible repeat (first | apply Kd.Q_alloc | apply Kd.Q_drewN | apply Kd.Q_drew)); exact HO7006.out⟩, ⟨by (with_reducible repeat (first | refine blk_drewN ?_ _ | refine blk_drew ?_ | refine blk_alloc ?_ _)); exact BK7007.out⟩, ⟨by repeat (first | (with_reducible first | exact HB.out | apply below_alloc | apply pw_below_drewN | apply below_drew1 | refine below_set ?_ GE7007.out) | exact HB.out)⟩⟩
      · replace c13 := Bool.eq_false_iff.mpr c13
        subst c13
        have H1 : (laws_FnTileBoxes.j0 k t7008 true t7001 t7002 t7003 t7004) = some r := by rw [if_neg (show ¬ (false = true) by decide)] at H; exact H
        clear H
        have H := H1
        clear H1
        have H' := Aside0.mk H
        clear H
        have hcz18_0 : w10.cell? ⟨gb7007, 0, none⟩ = some (.int .i64 t7001) := (blk_cell BK7007.out 0).trans rfl
        have hcz18_1 : w10.cell? ⟨gb7007, 1, none⟩ = some (.int .i64 t7002) := (blk_cell BK7007.out 1).trans rfl
        have hcz18_2 : w10.cell? ⟨gb7007, 2, none⟩ = some (.int .i64 t7003) := (blk_cell BK7007.out 2).trans rfl
        have hcz18_3 : w10.cell? ⟨gb7007, 3, none⟩ = some (.slice Ao9 t7004.length co9) := (blk_cell BK7007.out 3).trans rfl
        have hfz18_0 := blk_frozen BK7007.out 0
        have hfz18_1 := blk_frozen BK7007.out 1
        have hfz18_2 := blk_frozen BK7007.out 2
        have hfz18_3 := blk_frozen BK7007.out 3
        go_wp2_with (first | ((with_reducible refine gate_callee (f := 28) rfl ?_); refine goesL_ (some 19) rfl rfl Try.func28 (by kernel_rfl) rfl #[.agg #[.int .i64 t7001, .int .i64 t7002, .int .i64 t7003, .slice Ao9 t7004.length co9]] rfl (by (try simp only [List.map_toArray, List.map_cons, List.map_nil]); first | done | rfl | (simp only [List.length_drop, List.length_take]; rfl)) ?_; (with_reducible refine (spec_TileBoxes.calls k t7001 t7002 t7003 _ _ t7004 t7011 _ ?side1 ?side2 A11.out).mono ?_); (case side1 => repeat (first | exact (Kd.Q_reads' HO7006.out).2.2 | (with_reducible refine Kd.C_alloc ?_ _) | (with_reducible refine Kd.C_drewN ?_ _) | (with_reducible refine Kd.C_drew ?_))); (case side2 => exact (Kd.Q_reads' HO7006.out).2.1); rintro e w19 ⟨v7012, rfl, ho0, hb⟩; refine ⟨_, rfl, ?_⟩; have n0_ := Aside0.mk (Kd.Q_below (by (with_reducible repeat (first | apply Kd.Q_alloc | apply Kd.Q_drewN | apply Kd.Q_drew)); exact HO7006.out) hb); have n1_ := Aside0.mk (Kd.R_elder' (by (with_reducible repeat (first | apply Kd.R_alloc | apply Kd.R_drewN | apply Kd.R_drew)); exact HO7010.out) (Kd.R_base ho0) hb); have n2_ := Aside0.mk (Kd.R_lower (Kd.R_new' ho0 (Kd.R_lt (by (with_reducible repeat (first | apply Kd.R_alloc | apply Kd.R_drewN | apply Kd.R_drew)); exact HO7010.out))) (below_size (by repeat (first | (with_reducible first | exact HB.out | apply below_alloc | apply pw_below_drewN | apply below_drew1 | refine below_set ?_ GE7007.out) | exact HB.out)))); have n3_ := Aside0.mk (blk_below (g := gb7007) (o := .cells #[.int .i64 t7001, .int .i64 t7002, .int .i64 t7003, .slice Ao9 t7004.length co9] 27 (0, 0)) (by (with_reducible repeat (first | refine blk_drewN ?_ _ | refine blk_drew ?_ | refine blk_alloc ?_ _)); exact BK7007.out) hb); have n4_ := Aside0.mk (below_step (by repeat (first | (with_reducible first | exact HB.out | apply below_alloc | apply pw_below_drewN | apply below_drew1 | refine below_set ?_ GE7007.out) | exact HB.out)) hb); clear HO7006; clear HO7010; clear BK7007; clear HB; have HO7006 := n0_; have HO7010 := n1_; have HO7013 := n2_; have BK7007 := n3_; have HB := n4_; clear n0_ n1_ n2_ n3_ n4_; (try clear hb); (try clear hb2); (try clear hk); (try clear hi); (try clear ho0); obtain ⟨Ao20, co20, eo20⟩ := Kd.R_slice HO7010.out; subst eo20; obtain ⟨Ao21, co21, eo21⟩ := Kd.R_slice HO7013.out; subst eo21) | ((with_reducible refine gate_callee (f := 35) rfl ?_); refine goesL_ (some 20) rfl rfl Try.func35 (by kernel_rfl) rfl #[.slice Ao20 t7008.length co20, .slice Ao21 t7011.length co21] rfl (by (try simp only [List.map_toArray, List.map_cons, List.map_nil]); first | done | rfl | (simp only [List.length_drop, List.length_take]; rfl)) ?_; (with_reducible refine (laws_equalBoxes.calls k _ _ t7008 _ _ t7011 false _ ?side1 ?side2 ?side3 ?side4 A12.out).mono ?_); (case side1 => repeat (first | exact (Kd.R_reads' HO7010.out).2.2 | (with_reducible refine Kd.C_alloc ?_ _) | (with_reducible refine Kd.C_drewN ?_ _) | (with_reducible refine Kd.C_drew ?_))); (case side2 => exact (Kd.R_reads' HO7010.out).2.1); (case side3 => repeat (first | exact (Kd.R_reads' HO7013.out).2.2 | (with_reducible refine Kd.C_alloc ?_ _) | (with_reducible refine Kd.C_drewN ?_ _) | (with_reducible refine Kd.C_drew ?_))); (case side4 => exact (Kd.R_reads' HO7013.out).2.1); rintro e w' ⟨rfl, ⟨nd, rfl⟩⟩; refine ⟨_, rfl, ?_⟩))
        go_meet
        case rel => exact ⟨_, (true), (by first | rfl | (simp; done) | (simp [*]; done)), H', ⟨by first | omega | exact Nat.le_refl _⟩, ⟨by (with_reducible repeat (first | apply Kd.R_alloc | apply Kd.R_drewN | apply Kd.R_drew)); exact Kd.R_mono HO7010.out (fun _ hk => trivial)⟩, ⟨by (with_reducible repeat (first | apply Kd.Q_alloc | apply Kd.Q_drewN | apply Kd.Q_drew)); exact HO7006.out⟩, ⟨by (with_reducible repeat (first | refine blk_drewN ?_ _ | refine blk_drew ?_ | refine blk_alloc ?_ _)); exact BK7007.out⟩, ⟨by repeat (first | (with_reducible first | exact HB.out | apply below_alloc | apply pw_below_drewN | apply below_drew1 | refine below_set ?_ GE7007.out) | exact HB.out)⟩⟩
    case rest =>
      clear HC5
      try clear c1
      try clear c2
      try clear c2b0
      try clear c2b1
      try clear p2
      try clear c3
      try clear c6
      try clear c13
      try clear hcz14_0
      try clear hcz14_1
      try clear hcz14_2
      try clear hcz14_3
      try clear hcz18_0
      try clear hcz18_1
      try clear hcz18_2
      try clear hcz18_3
      try clear hcz8_0
      try clear hcz8_1
      try clear hcz8_2
      try clear hcz8_3
      try clear hfz14_0
      try clear hfz14_1
      try clear hfz14_2
      try clear hfz14_3
      try clear hfz18_0
      try clear hfz18_1
      try clear hfz18_2
      try clear hfz18_3
      try clear hfz8_0
      try clear hfz8_1
      try clear hfz8_2
      try clear hfz8_3
      obtain ⟨kq, x26_4, rfl, HA, HJ4, HO_4, HO_7008003, BK7007, HB⟩ := hcut
      cases kq with
      | zero => exact absurd HA.out (by simp [laws_FnTileBoxes.j0])
      | succ kj4 =>
        have H := HA.out
        clear HA
        simp only [laws_FnTileBoxes.j0] at H
        by_cases c22 : x26_4 = true
        · subst c22
          have H1 : ((spec_TileBoxes.f kj4 t7001 t7002 t7003 t7004).bind fun t7015 => ((laws_equalBoxes.f kj4 t7008 t7015).bind fun t7018 => (some t7018))) = some r := by rw [if_pos rfl] at H; exact H
          clear H
          have H := H1
          clear H1
          replace H := Option.bind_eq_some_iff.mp H
          obtain ⟨t7015, A230, H⟩ := H
          replace H : ((laws_equalBoxes.f kj4 t7008 t7015).bind fun t7018 => (some t7018)) = some r := H
          have A23 := Aside0.mk A230
          clear A230
          replace H := Option.bind_eq_some_iff.mp H
          obtain ⟨t7018, A240, H⟩ := H
          replace H : (some t7018) = some r := H
          have A24 := Aside0.mk A240
          clear A240
          obtain rfl := Option.some.inj H
          have hcz25_0 : wc.cell? ⟨gb7007, 0, none⟩ = some (.int .i64 t7001) := (blk_cell BK7007.out 0).trans rfl
          have hcz25_1 : wc.cell? ⟨gb7007, 1, none⟩ = some (.int .i64 t7002) := (blk_cell BK7007.out 1).trans rfl
          have hcz25_2 : wc.cell? ⟨gb7007, 2, none⟩ = some (.int .i64 t7003) := (blk_cell BK7007.out 2).trans rfl
          have hcz25_3 : wc.cell? ⟨gb7007, 3, none⟩ = some (.slice Ao9 t7004.length co9) := (blk_cell BK7007.out 3).trans rfl
          have hfz25_0 := blk_frozen BK7007.out 0
          have hfz25_1 := blk_frozen BK7007.out 1
          have hfz25_2 := blk_frozen BK7007.out 2
          have hfz25_3 := blk_frozen BK7007.out 3
          go_wp2_with (first | ((with_reducible refine gate_callee (f := 28) rfl ?_); refine goesL_ (some 29) rfl rfl Try.func28 (by kernel_rfl) rfl #[.agg #[.int .i64 t7001, .int .i64 t7002, .int .i64 t7003, .slice Ao9 t7004.length co9]] rfl (by (try simp only [List.map_toArray, List.map_cons, List.map_nil]); first | done | rfl | (simp only [List.length_drop, List.length_take]; rfl)) ?_; (with_reducible refine (spec_TileBoxes.calls kj4 t7001 t7002 t7003 _ _ t7004 t7015 _ ?side1 ?side2 A23.out).mono ?_); (case side1 => repeat (first | exact (Kd.Q_reads' HO_7008003.out).2.2 | (with_reducible refine Kd.C_alloc ?_ _) | (with_reducible refine Kd.C_drewN ?_ _) | (with_reducible refine Kd.C_drew ?_))); (case side2 => exact (Kd.Q_reads' HO_7008003.out).2.1); rintro e w26 ⟨v7016, rfl, ho0, hb⟩; refine ⟨_, rfl, ?_⟩; have n0_ := Aside0.mk (Kd.R_elder' (by (with_reducible repeat (first | apply Kd.R_alloc | apply Kd.R_drewN | apply Kd.R_drew)); exact HO_4.out) (Kd.R_base ho0) hb); have n1_ := Aside0.mk (Kd.Q_below (by (with_reducible repeat (first | apply Kd.Q_alloc | apply Kd.Q_drewN | apply Kd.Q_drew)); exact HO_7008003.out) hb); have n2_ := Aside0.mk (Kd.R_lower (Kd.R_new' ho0 (Kd.R_lt (by (with_reducible repeat (first | apply Kd.R_alloc | apply Kd.R_drewN | apply Kd.R_drew)); exact HO_4.out))) (below_size (by repeat (first | (with_reducible first | exact HB.out | apply below_alloc | apply pw_below_drewN | apply below_drew1 | refine below_set ?_ GE7007.out) | exact HB.out)))); have n3_ := Aside0.mk (blk_below (g := gb7007) (o := .cells #[.int .i64 t7001, .int .i64 t7002, .int .i64 t7003, .slice Ao9 t7004.length co9] 27 (0, 0)) (by (with_reducible repeat (first | refine blk_drewN ?_ _ | refine blk_drew ?_ | refine blk_alloc ?_ _)); exact BK7007.out) hb); have n4_ := Aside0.mk (below_step (by repeat (first | (with_reducible first | exact HB.out | apply below_alloc | apply pw_below_drewN | apply below_drew1 | refine below_set ?_ GE7007.out) | exact HB.out)) hb); clear HO_4; clear HO_7008003; clear BK7007; clear HB; have HO_4 := n0_; have HO_7008003 := n1_; have HO7017 := n2_; have BK7007 := n3_; have HB := n4_; clear n0_ n1_ n2_ n3_ n4_; (try clear hb); (try clear hb2); (try clear hk); (try clear hi); (try clear ho0); obtain ⟨Ao27, co27, eo27⟩ := Kd.R_slice HO_4.out; subst eo27; obtain ⟨Ao28, co28, eo28⟩ := Kd.R_slice HO7017.out; subst eo28) | ((with_reducible refine gate_callee (f := 35) rfl ?_); refine goesL_ (some 30) rfl rfl Try.func35 (by kernel_rfl) rfl #[.slice Ao27 t7008.length co27, .slice Ao28 t7015.length co28] rfl (by (try simp only [List.map_toArray, List.map_cons, List.map_nil]); first | done | rfl | (simp only [List.length_drop, List.length_take]; rfl)) ?_; (with_reducible refine (laws_equalBoxes.calls kj4 _ _ t7008 _ _ t7015 t7018 _ ?side1 ?side2 ?side3 ?side4 A24.out).mono ?_); (case side1 => repeat (first | exact (Kd.R_reads' HO_4.out).2.2 | (with_reducible refine Kd.C_alloc ?_ _) | (with_reducible refine Kd.C_drewN ?_ _) | (with_reducible refine Kd.C_drew ?_))); (case side2 => exact (Kd.R_reads' HO_4.out).2.1); (case side3 => repeat (first | exact (Kd.R_reads' HO7017.out).2.2 | (with_reducible refine Kd.C_alloc ?_ _) | (with_reducible refine Kd.C_drewN ?_ _) | (with_reducible refine Kd.C_drew ?_))); (case side4 => exact (Kd.R_reads' HO7017.out).2.1); rintro e w' ⟨rfl, ⟨nd, rfl⟩⟩; refine ⟨_, rfl, ?_⟩))
          go_ret
          exact ⟨by first | rfl | (simp [errW_none, errW_some] <;> rfl) | (simp [*, errW_none, errW_some] <;> rfl), by repeat (first | (with_reducible first | exact HB.out | apply below_alloc | apply pw_below_drewN | apply below_drew1 | refine below_set ?_ GE7007.out) | exact HB.out)⟩
        · replace c22 := Bool.eq_false_iff.mpr c22
          subst c22
          have H1 : (laws_FnTileBoxes.l0 kj4 t7008 (([] : List (S118))) 0 0 t7001 t7002 t7003 t7004) = some r := by rw [if_neg (show ¬ (false = true) by decide)] at H; exact H
          clear H
          have H := H1
          clear H1
          obtain ⟨y7019, hy7019⟩ : ∃ y_ : List (S118), y_ = (([] : List (S118))) := ⟨_, rfl⟩
          replace H : (laws_FnTileBoxes.l0 kj4 t7008 y7019 0 0 t7001 t7002 t7003 t7004) = some r := by first | (rw [hy7019]; with_reducible exact H) | (have H2_ := (Option.bind_some _ _).symm.trans H; rw [hy7019]; with_reducible exact H2_) | (have H2_ := (Option.bind_some _ _).symm.trans H; with_reducible exact H2_) | with_reducible exact H | (rw [hy7019]; exact H) | exact H
          have Ny7019 := Aside0.mk hy7019
          clear hy7019
          have H' := Aside0.mk H
          clear H
          go_wp2_with (first | ((with_reducible refine gate_dst (N := 31) rfl ?_); (try (refine gate_guard (by rfl) ?_; dsimp only)); refine Kd.R_lit k118 _ 118 ?hg (N := 31) ?hd (xs := ([] : List (S118))) (inner := []) (ok := fun _ => True) (okp := fun _ => True) ?hr ?hp (fun _ hk => hk) trivial (Below.refl _ _) (Nat.le_refl _) (by simp) ?_; (case hd => rfl); (case hg => rfl); (case hr => first | (go_simp; done) | (go_simp; rfl)); (case hp => exact (Reps.none _ _)); intro v7020 w29 ho30 hb hg_ hnew_; clear hg_ hnew_; (first | rw [← Ny7019.out] at ho30 | (simp only [Int.reduceToNat] at ho30; rw [← Ny7019.out] at ho30)); have n0_ := Aside0.mk (Kd.R_below (by (with_reducible repeat (first | apply Kd.R_alloc | apply Kd.R_drewN | apply Kd.R_drew)); exact HO_4.out) hb); have n1_ := Aside0.mk (Kd.Q_below (by (with_reducible repeat (first | apply Kd.Q_alloc | apply Kd.Q_drewN | apply Kd.Q_drew)); exact HO_7008003.out) hb); have n2_ := Aside0.mk (Kd.R_lower ho30 (below_size (by repeat (first | (with_reducible first | exact HB.out | apply below_alloc | apply pw_below_drewN | apply below_drew1 | refine below_set ?_ GE7007.out) | exact HB.out)))); have n3_ := Aside0.mk (blk_below (g := gb7007) (o := .cells #[.int .i64 t7001, .int .i64 t7002, .int .i64 t7003, .slice Ao9 t7004.length co9] 27 (0, 0)) (by (with_reducible repeat (first | refine blk_drewN ?_ _ | refine blk_drew ?_ | refine blk_alloc ?_ _)); exact BK7007.out) hb); have n4_ := Aside0.mk (below_step (by repeat (first | (with_reducible first | exact HB.out | apply below_alloc | apply pw_below_drewN | apply below_drew1 | refine below_set ?_ GE7007.out) | exact HB.out)) hb); clear HO_4; clear HO_7008003; clear BK7007; clear HB; have HO_4 := n0_; have HO_7008003 := n1_; have HO7021 := n2_; have BK7007 := n3_; have HB := n4_; clear n0_ n1_ n2_ n3_ n4_; clear hb ho30))
          go_loopg [5, 6, 7] kj4 (fun kq v5 v6 v7 w' => ∃ (x5_2 : List (S118)) (x6_2 : Int) (x7_2 : Int), v6 = .int .i64 x6_2 ∧ v7 = .int .i64 x7_2 ∧ Aside0 (laws_FnTileBoxes.l0 kq t7008 x5_2 x6_2 x7_2 t7001 t7002 t7003 t7004 = some r) ∧ Aside0 (kq ≤ kj4) ∧ Aside0 (Kd.R k47 47 w' w.heap.size (fun _ => True) v7009 t7008) ∧ Aside0 (Kd.R k118 118 w' w.heap.size (fun _ => True) v5 x5_2) ∧ Aside0 (Kd.Q (Kd.int .i64) 3 w' w.heap.size (fun _ => True) (.slice Ao9 t7004.length co9) t7004) ∧ Aside0 (w'.heap[gb7007]? = some (.cells #[.int .i64 t7001, .int .i64 t7002, .int .i64 t7003, (.slice Ao9 t7004.length co9)] 27 (0, 0))) ∧ Aside0 (Below w.heap.size w w'))
          case atStart => exact ⟨(y7019), (0), (0), (by first | rfl | (simp; done) | (simp [*]; done)), (by first | rfl | (simp; done) | (simp [*]; done)), H', ⟨Nat.le_refl _⟩, ⟨by (with_reducible repeat (first | apply Kd.R_alloc | apply Kd.R_drewN | apply Kd.R_drew)); exact HO_4.out⟩, ⟨by (with_reducible repeat (first | apply Kd.R_alloc | apply Kd.R_drewN | apply Kd.R_drew)); exact HO7021.out⟩, ⟨by (with_reducible repeat (first | apply Kd.Q_alloc | apply Kd.Q_drewN | apply Kd.Q_drew)); exact HO_7008003.out⟩, ⟨by (with_reducible repeat (first | refine blk_drewN ?_ _ | refine blk_drew ?_ | refine blk_alloc ?_ _)); exact BK7007.out⟩, ⟨by repeat (first | (with_reducible first | exact HB.out | apply below_alloc | apply pw_below_drewN | apply below_drew1 | refine below_set ?_ GE7007.out) | exact HB.out)⟩⟩
          case round =>
            clear H'
            try clear c1
            try clear c2
            try clear c2b0
            try clear c2b1
            try clear p2
            try clear c3
            try clear c6
            try clear c13
            try clear c22
            try clear c28
            try clear c29
            try clear hcz14_0
            try clear hcz14_1
            try clear hcz14_2
            try clear hcz14_3
            try clear hcz18_0
            try clear hcz18_1
            try clear hcz18_2
            try clear hcz18_3
            try clear hcz25_0
            try clear hcz25_1
            try clear hcz25_2
            try clear hcz25_3
            try clear hcz8_0
            try clear hcz8_1
            try clear hcz8_2
            try clear hcz8_3
            try clear hfz14_0
            try clear hfz14_1
            try clear hfz14_2
            try clear hfz14_3
            try clear hfz18_0
            try clear hfz18_1
            try clear hfz18_2
            try clear hfz18_3
            try clear hfz25_0
            try clear hfz25_1
            try clear hfz25_2
            try clear hfz25_3
            try clear hfz8_0
            try clear hfz8_1
            try clear hfz8_2
            try clear hfz8_3
            try clear p2
            obtain ⟨x5_2, x6_2, x7_2, rfl, rfl, HA, HK2, HO_4, HO_5, HO_7008003, BK7007, HB⟩ := hrel
            cases gk with
            | zero => exact absurd HA.out (by simp [laws_FnTileBoxes.l0])
            | succ k2 =>
              have H := HA.out
              clear HA
              simp only [laws_FnTileBoxes.l0] at H
              by_cases c31 : x7_2 < (t7008.length : Int)
              · rw [if_pos c31] at H
                have c31b0 : decide (x7_2 < (t7008.length : Int)) = true := decide_eq_true c31
                clear c31
                by_cases c32 : 0 ≤ x7_2
                · rw [if_pos c32] at H
                  have c32b0 : decide (0 ≤ x7_2) = true := decide_eq_true c32
                  clear c32
                  replace H := Option.bind_eq_some_iff.mp H
                  obtain ⟨⟨t7024, t7027⟩, A330, H⟩ := H
                  replace H : (if t7027 = true then (if ((rd_T47 t7008 x7_2).f2) > 4 then (laws_FnTileBoxes.j2 k2 t7008 x5_2 x6_2 x7_2 t7024 true t7001 t7002 t7003 t7004) else (laws_FnTileBoxes.j2 k2 t7008 x5_2 x6_2 x7_2 t7024 (decide (((rd_T47 t7008 x7_2).f3) > 4)) t7001 t7002 t7003 t7004)) else (laws_FnTileBoxes.j2 k2 t7008 x5_2 x6_2 x7_2 t7024 true t7001 t7002 t7003 t7004)) = some r := H
                  have A33 := Aside0.mk A330
                  clear A330
                  have HC34 := Aside0.mk H
                  clear H
                  obtain ⟨Ao35, co35, eo35⟩ := Kd.R_slice HO_4.out
                  subst eo35
                  have p7023 : 0 ≤ (x7_2 : Int) := of_decide_eq_true (by first | (with_reducible assumption) | assumption)
                  have q7023 : x7_2 < (t7008.length : Int) := of_decide_eq_true (by first | (with_reducible assumption) | assumption)
                  obtain ⟨ad7023, e7023, hx7023_0, hx7023_1, hx7023_2, hx7023_3⟩ := at_T47 (Kd.R_reads' HO_4.out).2.2 x7_2 p7023 q7023
                  cases e7023
                  replace p7023 := eq_true p7023
                  replace q7023 := eq_true q7023
                  go_upto_region 13 with (first | ((with_reducible refine gate_callee (f := 36) rfl ?_); refine goesL_ (some 43) rfl rfl Try.func36 (by kernel_rfl) rfl #[.agg #[.int .i64 ((rd_T47 t7008 x7_2).f0), .int .i64 ((rd_T47 t7008 x7_2).f1), .int .i64 ((rd_T47 t7008 x7_2).f2), .int .i64 ((rd_T47 t7008 x7_2).f3)]] rfl (by (try simp only [List.map_toArray, List.map_cons, List.map_nil]); first | done | rfl | (simp only [List.length_drop, List.length_take]; rfl)) ?_; (with_reducible refine (impl_BoxRegion.calls ((rd_T47 t7008 x7_2).f0) ((rd_T47 t7008 x7_2).f1) ((rd_T47 t7008 x7_2).f2) ((rd_T47 t7008 x7_2).f3) t7024 t7027 _ A33.out).mono ?_); rintro e w36 ⟨v7025, rfl, ho0, hb⟩; refine ⟨_, rfl, ?_⟩; have n0_ := Aside0.mk (Kd.R_below (by (with_reducible repeat (first | apply Kd.R_alloc | apply Kd.R_drewN | apply Kd.R_drew)); exact HO_4.out) hb); have n1_ := Aside0.mk (Kd.R_elder' (by (with_reducible repeat (first | apply Kd.R_alloc | apply Kd.R_drewN | apply Kd.R_drew)); exact HO_5.out) (Kd.R_base ho0) hb); have n2_ := Aside0.mk (Kd.Q_below (by (with_reducible repeat (first | apply Kd.Q_alloc | apply Kd.Q_drewN | apply Kd.Q_drew)); exact HO_7008003.out) hb); have n3_ := Aside0.mk (Kd.R_lower (Kd.R_new' ho0 (Kd.R_lt (by (with_reducible repeat (first | apply Kd.R_alloc | apply Kd.R_drewN | apply Kd.R_drew)); exact HO_5.out))) (below_size (by repeat (first | (with_reducible first | exact HB.out | apply below_alloc | apply pw_below_drewN | apply below_drew1 | refine below_set ?_ GE7007.out) | exact HB.out)))); have n4_ := Aside0.mk (blk_below (g := gb7007) (o := .cells #[.int .i64 t7001, .int .i64 t7002, .int .i64 t7003, .slice Ao9 t7004.length co9] 27 (0, 0)) (by (with_reducible repeat (first | refine blk_drewN ?_ _ | refine blk_drew ?_ | refine blk_alloc ?_ _)); exact BK7007.out) hb); have n5_ := Aside0.mk (below_step (by repeat (first | (with_reducible first | exact HB.out | apply below_alloc | apply pw_below_drewN | apply below_drew1 | refine below_set ?_ GE7007.out) | exact HB.out)) hb); clear HO_4; clear HO_5; clear HO_7008003; clear BK7007; clear HB; have HO_4 := n0_; have HO_5 := n1_; have HO_7008003 := n2_; have HO7026 := n3_; have BK7007 := n4_; have HB := n5_; clear n0_ n1_ n2_ n3_ n4_ n5_; (try clear hb); (try clear hb2); (try clear hk); (try clear hi); (try clear ho0)))
                  (try simp only [Act.put, List.setIfInBounds_toArray, List.set_cons_zero, List.set_cons_succ])
                  go_cut [63] (fun v63 wc => ∃ (kq : Nat) (x63_33 : Bool), v63 = .bool x63_33 ∧ Aside0 (laws_FnTileBoxes.j2 kq t7008 x5_2 x6_2 x7_2 t7024 x63_33 t7001 t7002 t7003 t7004 = some r) ∧ Aside0 (kq ≤ k2) ∧ Aside0 (Kd.R k47 47 wc w.heap.size (fun _ => True) (.slice (some ad7023) t7008.length co35) t7008) ∧ Aside0 (Kd.R k118 118 wc w.heap.size (fun k_ => some k_ ≠ (v7025 : Value).ownBlock) u5 x5_2) ∧ Aside0 (Kd.R k118 118 wc w.heap.size (fun k_ => some k_ ≠ (u5 : Value).ownBlock) v7025 t7024) ∧ Aside0 (Kd.Q (Kd.int .i64) 3 wc w.heap.size (fun _ => True) (.slice Ao9 t7004.length co9) t7004) ∧ Aside0 (wc.heap[gb7007]? = some (.cells #[.int .i64 t7001, .int .i64 t7002, .int .i64 t7003, (.slice Ao9 t7004.length co9)] 27 (0, 0))) ∧ Aside0 (Below w.heap.size w wc))
                  case first =>
                    have H := HC34.out
                    clear HC34
                    by_cases c37 : t7027 = true
                    · subst c37
                      have H1 : (if ((rd_T47 t7008 x7_2).f2) > 4 then (laws_FnTileBoxes.j2 k2 t7008 x5_2 x6_2 x7_2 t7024 true t7001 t7002 t7003 t7004) else (laws_FnTileBoxes.j2 k2 t7008 x5_2 x6_2 x7_2 t7024 (decide (((rd_T47 t7008 x7_2).f3) > 4)) t7001 t7002 t7003 t7004)) = some r := by rw [if_pos rfl] at H; exact H
                      clear H
                      have H := H1
                      clear H1
                      by_cases c38 : ((rd_T47 t7008 x7_2).f2) > 4
                      · rw [if_pos c38] at H
                        have c38b0 : decide (4 < ((rd_T47 t7008 x7_2).f2)) = true := decide_eq_true c38
                        clear c38
                        (first | rw [c38b0] | (simp only [i64_w, i32_w]; rw [c38b0]) | skip)
                        have H' := Aside0.mk H
                        clear H
                        have p7028 : 0 ≤ (x7_2 : Int) := of_decide_eq_true (by first | (with_reducible assumption) | assumption)
                        have q7028 : x7_2 < (t7008.length : Int) := of_decide_eq_true (by first | (with_reducible assumption) | assumption)
                        obtain ⟨ad7028, e7028, hx7028_0, hx7028_1, hx7028_2, hx7028_3⟩ := at_T47 (Kd.R_reads' HO_4.out).2.2 x7_2 p7028 q7028
                        obtain rfl : ad7023 = ad7028 := (by injection e7028)
                        replace p7028 := eq_true p7028
                        replace q7028 := eq_true q7028
                        go_wp2
                        go_meet
                        case rel => exact ⟨_, (true), (by first | rfl | (simp; done) | (simp [*]; done)), H', ⟨by have := HJ4.out; have := HK2.out; first | omega | exact Nat.le_refl _⟩, ⟨by (with_reducible repeat (first | apply Kd.R_alloc | apply Kd.R_drewN | apply Kd.R_drew)); exact HO_4.out⟩, ⟨by (with_reducible repeat (first | apply Kd.R_alloc | apply Kd.R_drewN | apply Kd.R_drew)); exact Kd.R_mono HO_5.out (fun _ hk => hk.2)⟩, ⟨by (with_reducible repeat (first | apply Kd.R_alloc | apply Kd.R_drewN | apply Kd.R_drew)); exact Kd.R_mono HO7026.out (fun _ hk => hk.2)⟩, ⟨by (with_reducible repeat (first | apply Kd.Q_alloc | apply Kd.Q_drewN | apply Kd.Q_drew)); exact HO_7008003.out⟩, ⟨by (with_reducible repeat (first | refine blk_drewN ?_ _ | refine blk_drew ?_ | refine blk_alloc ?_ _)); exact BK7007.out⟩, ⟨by repeat (first | (with_reducible first | exact HB.out | apply below_alloc | apply pw_below_drewN | apply below_drew1 | refine below_set ?_ GE7007.out) | exact HB.out)⟩⟩
                      · rw [if_neg c38] at H
                        have c38b0 : decide (4 < ((rd_T47 t7008 x7_2).f2)) = false := decide_eq_false c38
                        clear c38
                        (first | rw [c38b0] | (simp only [i64_w, i32_w]; rw [c38b0]) | skip)
                        have H' := Aside0.mk H
                        clear H
                        have p7028 : 0 ≤ (x7_2 : Int) := of_decide_eq_true (by first | (with_reducible assumption) | assumption)
                        have q7028 : x7_2 < (t7008.length : Int) := of_decide_eq_true (by first | (with_reducible assumption) | assumption)
                        obtain ⟨ad7028, e7028, hx7028_0, hx7028_1, hx7028_2, hx7028_3⟩ := at_T47 (Kd.R_reads' HO_4.out).2.2 x7_2 p7028 q7028
                        obtain rfl : ad7023 = ad7028 := (by injection e7028)
                        replace p7028 := eq_true p7028
                        replace q7028 := eq_true q7028
                        have p7029 : 0 ≤ (x7_2 : Int) := of_decide_eq_true (by first | (with_reducible assumption) | assumption)
                        have q7029 : x7_2 < (t7008.length : Int) := of_decide_eq_true (by first | (with_reducible assumption) | assumption)
                        obtain ⟨ad7029, e7029, hx7029_0, hx7029_1, hx7029_2, hx7029_3⟩ := at_T47 (Kd.R_reads' HO_4.out).2.2 x7_2 p7029 q7029
                        obtain rfl : ad7023 = ad7029 := (by injection e7029)
                        replace p7029 := eq_true p7029
                        replace q7029 := eq_true q7029
                        go_wp2
                        go_meet
                        case rel => exact ⟨_, (decide (((rd_T47 t7008 x7_2).f3) > 4)), (by first | rfl | (simp; done) | (simp [*]; done)), H', ⟨by have := HJ4.out; have := HK2.out; first | omega | exact Nat.le_refl _⟩, ⟨by (with_reducible repeat (first | apply Kd.R_alloc | apply Kd.R_drewN | apply Kd.R_drew)); exact HO_4.out⟩, ⟨by (with_reducible repeat (first | apply Kd.R_alloc | apply Kd.R_drewN | apply Kd.R_drew)); exact Kd.R_mono HO_5.out (fun _ hk => hk.2)⟩, ⟨by (with_reducible repeat (first | apply Kd.R_alloc | apply Kd.R_drewN | apply Kd.R_drew)); exact Kd.R_mono HO7026.out (fun _ hk => hk.2)⟩, ⟨by (with_reducible repeat (first | apply Kd.Q_alloc | apply Kd.Q_drewN | apply Kd.Q_drew)); exact HO_7008003.out⟩, ⟨by (with_reducible repeat (first | refine blk_drewN ?_ _ | refine blk_drew ?_ | refine blk_alloc ?_ _)); exact BK7007.out⟩, ⟨by repeat (first | (with_reducible first | exact HB.out | apply below_alloc | apply pw_below_drewN | apply below_drew1 | refine below_set ?_ GE7007.out) | exact HB.out)⟩⟩
                    · replace c37 := Bool.eq_false_iff.mpr c37
                      subst c37
                      have H1 : (laws_FnTileBoxes.j2 k2 t7008 x5_2 x6_2 x7_2 t7024 true t7001 t7002 t7003 t7004) = some r := by rw [if_neg (show ¬ (false = true) by decide)] at H; exact H
                      clear H
                      have H := H1
                      clear H1
                      have H' := Aside0.mk H
                      clear H
                      go_wp2
                      go_meet
                      case rel => exact ⟨_, (true), (by first | rfl | (simp; done) | (simp [*]; done)), H', ⟨by have := HJ4.out; have := HK2.out; first | omega | exact Nat.le_refl _⟩, ⟨by (with_reducible repeat (first | apply Kd.R_alloc | apply Kd.R_drewN | apply Kd.R_drew)); exact HO_4.out⟩, ⟨by (with_reducible repeat (first | apply Kd.R_alloc | apply Kd.R_drewN | apply Kd.R_drew)); exact Kd.R_mono HO_5.out (fun _ hk => hk.2)⟩, ⟨by (with_reducible repeat (first | apply Kd.R_alloc | apply Kd.R_drewN | apply Kd.R_drew)); exact Kd.R_mono HO7026.out (fun _ hk => hk.2)⟩, ⟨by (with_reducible repeat (first | apply Kd.Q_alloc | apply Kd.Q_drewN | apply Kd.Q_drew)); exact HO_7008003.out⟩, ⟨by (with_reducible repeat (first | refine blk_drewN ?_ _ | refine blk_drew ?_ | refine blk_alloc ?_ _)); exact BK7007.out⟩, ⟨by repeat (first | (with_reducible first | exact HB.out | apply below_alloc | apply pw_below_drewN | apply below_drew1 | refine below_set ?_ GE7007.out) | exact HB.out)⟩⟩
                  case rest =>
                    clear HC34
                    try clear c1
                    try clear c2
                    try clear c2b0
                    try clear c2b1
                    try clear p2
                    try clear c3
                    try clear c6
                    try clear p7
                    try clear q7
                    try clear hx7
                    try clear c13
                    try clear c22
                    try clear c28
                    try clear c29
                    try clear c31
                    try clear c31b0
                    try clear c32
                    try clear c32b0
                    try clear c34
                    try clear c35
                    try clear c36
                    try clear c37
                    try clear c38
                    try clear c38b0
                    try clear hcz14_0
                    try clear hcz14_1
                    try clear hcz14_2
                    try clear hcz14_3
                    try clear hcz18_0
                    try clear hcz18_1
                    try clear hcz18_2
                    try clear hcz18_3
                    try clear hcz25_0
                    try clear hcz25_1
                    try clear hcz25_2
                    try clear hcz25_3
                    try clear hcz8_0
                    try clear hcz8_1
                    try clear hcz8_2
                    try clear hcz8_3
                    try clear hfz14_0
                    try clear hfz14_1
                    try clear hfz14_2
                    try clear hfz14_3
                    try clear hfz18_0
                    try clear hfz18_1
                    try clear hfz18_2
                    try clear hfz18_3
                    try clear hfz25_0
                    try clear hfz25_1
                    try clear hfz25_2
                    try clear hfz25_3
                    try clear hfz8_0
                    try clear hfz8_1
                    try clear hfz8_2
                    try clear hfz8_3
                    try clear hx7023_0
                    try clear hx7023_1
                    try clear hx7023_2
                    try clear hx7023_3
                    try clear hx7028_0
                    try clear hx7028_1
                    try clear hx7028_2
                    try clear hx7028_3
                    try clear hx7029_0
                    try clear hx7029_1
                    try clear hx7029_2
                    try clear hx7029_3
                    try clear p2
                    try clear p7023
                    try clear p7028
                    try clear p7029
                    try clear q7023
                    try clear q7028
                    try clear q7029
                    obtain ⟨kq, x63_33, rfl, HA, HJ33, HO_4, HO_5, HO_8, HO_7008003, BK7007, HB⟩ := hcut
                    cases kq with
                    | zero => exact absurd HA.out (by simp [laws_FnTileBoxes.j2])
                    | succ kj33 =>
                      have H := HA.out
                      clear HA
                      simp only [laws_FnTileBoxes.j2] at H
                      by_cases c39 : x63_33 = true
                      · subst c39
                        have H1 : (some false) = some r := by rw [if_pos rfl] at H; exact H
                        clear H
                        have H := H1
                        clear H1
                        exact absurd ((Option.some.inj H).trans HRT.out) (by decide)
                      · replace c39 := Bool.eq_false_iff.mpr c39
                        subst c39
                        have H1 : ((impl_AreaOf.f kj33 t7024).bind fun t7030 => ((laws_combined.f x5_2 t7024 0).bind fun t7031 => (laws_FnTileBoxes.l0 kj33 t7008 t7031 (wrap64 (x6_2 + t7030)) (wrap64 (x7_2 + 1)) t7001 t7002 t7003 t7004))) = some r := by rw [if_neg (show ¬ (false = true) by decide)] at H; exact H
                        clear H
                        have H := H1
                        clear H1
                        replace H := Option.bind_eq_some_iff.mp H
                        obtain ⟨t7030, A400, H⟩ := H
                        replace H : ((laws_combined.f x5_2 t7024 0).bind fun t7031 => (laws_FnTileBoxes.l0 kj33 t7008 t7031 (wrap64 (x6_2 + t7030)) (wrap64 (x7_2 + 1)) t7001 t7002 t7003 t7004)) = some r := H
                        have A40 := Aside0.mk A400
                        clear A400
                        replace H := Option.bind_eq_some_iff.mp H
                        obtain ⟨t7031, A410, H⟩ := H
                        replace H : (laws_FnTileBoxes.l0 kj33 t7008 t7031 (wrap64 (x6_2 + t7030)) (wrap64 (x7_2 + 1)) t7001 t7002 t7003 t7004) = some r := H
                        have A41 := Aside0.mk A410
                        clear A410
                        have H' := Aside0.mk H
                        clear H
                        obtain ⟨Ao42, co42, eo42⟩ := Kd.R_slice HO_8.out
                        subst eo42
                        go_wp2_with (first | ((with_reducible refine gate_callee (f := 37) rfl ?_); refine goesL_ (some 66) rfl rfl Try.func37 (by kernel_rfl) rfl #[.slice Ao42 t7024.length co42] rfl (by (try simp only [List.map_toArray, List.map_cons, List.map_nil]); first | done | rfl | (simp only [List.length_drop, List.length_take]; rfl)) ?_; (with_reducible refine (impl_AreaOf.calls kj33 _ _ t7024 t7030 _ ?side1 ?side2 A40.out).mono ?_); (case side1 => repeat (first | exact (Kd.R_reads' HO_8.out).2.2 | (with_reducible refine Kd.C_alloc ?_ _) | (with_reducible refine Kd.C_drewN ?_ _) | (with_reducible refine Kd.C_drew ?_))); (case side2 => exact (Kd.R_reads' HO_8.out).2.1); rintro e w43 ⟨rfl, hb⟩; refine ⟨_, rfl, ?_⟩; have n0_ := Aside0.mk (Kd.R_below (by (with_reducible repeat (first | apply Kd.R_alloc | apply Kd.R_drewN | apply Kd.R_drew)); exact HO_4.out) hb); have n1_ := Aside0.mk (Kd.R_below (by (with_reducible repeat (first | apply Kd.R_alloc | apply Kd.R_drewN | apply Kd.R_drew)); exact HO_5.out) hb); have n2_ := Aside0.mk (Kd.R_below (by (with_reducible repeat (first | apply Kd.R_alloc | apply Kd.R_drewN | apply Kd.R_drew)); exact HO_8.out) hb); have n3_ := Aside0.mk (Kd.Q_below (by (with_reducible repeat (first | apply Kd.Q_alloc | apply Kd.Q_drewN | apply Kd.Q_drew)); exact HO_7008003.out) hb); have n4_ := Aside0.mk (blk_below (g := gb7007) (o := .cells #[.int .i64 t7001, .int .i64 t7002, .int .i64 t7003, .slice Ao9 t7004.length co9] 27 (0, 0)) (by (with_reducible repeat (first | refine blk_drewN ?_ _ | refine blk_drew ?_ | refine blk_alloc ?_ _)); exact BK7007.out) hb); have n5_ := Aside0.mk (below_step (by repeat (first | (with_reducible first | exact HB.out | apply below_alloc | apply pw_below_drewN | apply below_drew1 | refine below_set ?_ GE7007.out) | exact HB.out)) hb); clear HO_4; clear HO_5; clear HO_8; clear HO_7008003; clear BK7007; clear HB; have HO_4 := n0_; have HO_5 := n1_; have HO_8 := n2_; have HO_7008003 := n3_; have BK7007 := n4_; have HB := n5_; clear n0_ n1_ n2_ n3_ n4_ n5_; (try clear hb); (try clear hb2); (try clear hk); (try clear hi); obtain ⟨Ao44, co44, eo44⟩ := Kd.R_slice HO_5.out; subst eo44) | ((with_reducible refine gate_callee (f := 38) rfl ?_); refine goesL_ (some 70) rfl rfl Try.func38 (by kernel_rfl) rfl #[.slice Ao44 x5_2.length co44, .slice Ao42 t7024.length co42, .int .i64 0] rfl (by (try simp only [List.map_toArray, List.map_cons, List.map_nil]); first | done | rfl | (simp only [List.length_drop, List.length_take]; rfl)) ?_; (with_reducible refine (laws_combined.calls _ _ x5_2 _ _ t7024 0 t7031 _ ?side1 ?side2 ?side3 ?side4 A41.out).mono ?_); (case side1 => repeat (first | exact (Kd.R_reads' HO_5.out).2.2 | (with_reducible refine Kd.C_alloc ?_ _) | (with_reducible refine Kd.C_drewN ?_ _) | (with_reducible refine Kd.C_drew ?_))); (case side2 => exact (Kd.R_reads' HO_5.out).2.1); (case side3 => repeat (first | exact (Kd.R_reads' HO_8.out).2.2 | (with_reducible refine Kd.C_alloc ?_ _) | (with_reducible refine Kd.C_drewN ?_ _) | (with_reducible refine Kd.C_drew ?_))); (case side4 => exact (Kd.R_reads' HO_8.out).2.1); rintro e w45 ⟨v7032, rfl, ho0, hb⟩; refine ⟨_, rfl, ?_⟩; have n0_ := Aside0.mk (Kd.R_below (by (with_reducible repeat (first | apply Kd.R_alloc | apply Kd.R_drewN | apply Kd.R_drew)); exact HO_4.out) hb); have n1_ := Aside0.mk (Kd.R_elder' (by (with_reducible repeat (first | apply Kd.R_alloc | apply Kd.R_drewN | apply Kd.R_drew)); exact HO_5.out) (Kd.R_base ho0) hb); have n2_ := Aside0.mk (Kd.R_elder' (by (with_reducible repeat (first | apply Kd.R_alloc | apply Kd.R_drewN | apply Kd.R_drew)); exact HO_8.out) (Kd.R_base ho0) hb); have n3_ := Aside0.mk (Kd.Q_below (by (with_reducible repeat (first | apply Kd.Q_alloc | apply Kd.Q_drewN | apply Kd.Q_drew)); exact HO_7008003.out) hb); have n4_ := Aside0.mk (Kd.R_lower (Kd.R_new' (Kd.R_new' ho0 (Kd.R_lt (by (with_reducible repeat (first | apply Kd.R_alloc | apply Kd.R_drewN | apply Kd.R_drew)); exact HO_5.out))) (Kd.R_lt (by (with_reducible repeat (first | apply Kd.R_alloc | apply Kd.R_drewN | apply Kd.R_drew)); exact HO_8.out))) (below_size (by repeat (first | (with_reducible first | exact HB.out | apply below_alloc | apply pw_below_drewN | apply below_drew1 | refine below_set ?_ GE7007.out) | exact HB.out)))); have n5_ := Aside0.mk (blk_below (g := gb7007) (o := .cells #[.int .i64 t7001, .int .i64 t7002, .int .i64 t7003, .slice Ao9 t7004.length co9] 27 (0, 0)) (by (with_reducible repeat (first | refine blk_drewN ?_ _ | refine blk_drew ?_ | refine blk_alloc ?_ _)); exact BK7007.out) hb); have n6_ := Aside0.mk (below_step (by repeat (first | (with_reducible first | exact HB.out | apply below_alloc | apply pw_below_drewN | apply below_drew1 | refine below_set ?_ GE7007.out) | exact HB.out)) hb); clear HO_4; clear HO_5; clear HO_8; clear HO_7008003; clear BK7007; clear HB; have HO_4 := n0_; have HO_5 := n1_; have HO_8 := n2_; have HO_7008003 := n3_; have HO7033 := n4_; have BK7007 := n5_; have HB := n6_; clear n0_ n1_ n2_ n3_ n4_ n5_ n6_; (try clear hb); (try clear hb2); (try clear hk); (try clear hi); (try clear ho0)))
                        go_roundg kj33
                        case measure => have := HJ4.out; have := HK2.out; have := HJ33.out; omega
                        case rel => exact ⟨(t7031), (wrap64 (x6_2 + t7030)), (wrap64 (x7_2 + 1)), (by first | rfl | (simp; done) | (simp [*]; done)), (by first | rfl | (simp; done) | (simp [*]; done)), H', ⟨by have := HJ4.out; have := HK2.out; have := HJ33.out; omega⟩, ⟨by (with_reducible repeat (first | apply Kd.R_alloc | apply Kd.R_drewN | apply Kd.R_drew)); exact HO_4.out⟩, ⟨by (with_reducible repeat (first | apply Kd.R_alloc | apply Kd.R_drewN | apply Kd.R_drew)); exact Kd.R_mono HO7033.out (fun _ hk => trivial)⟩, ⟨by (with_reducible repeat (first | apply Kd.Q_alloc | apply Kd.Q_drewN | apply Kd.Q_drew)); exact HO_7008003.out⟩, ⟨by (with_reducible repeat (first | refine blk_drewN ?_ _ | refine blk_drew ?_ | refine blk_alloc ?_ _)); exact BK7007.out⟩, ⟨by repeat (first | (with_reducible first | exact HB.out | apply below_alloc | apply pw_below_drewN | apply below_drew1 | refine below_set ?_ GE7007.out) | exact HB.out)⟩⟩
                · rw [if_neg c32] at H
                  exact absurd H (by simp)
              · rw [if_neg c31] at H
                have c31b0 : decide (x7_2 < (t7008.length : Int)) = false := decide_eq_false c31
                clear c31
                by_cases c46 : x6_2 = (wrap64 (t7001 * t7002))
                · rw [if_pos c46] at H
                  have c46b0 : (x6_2 == (wrap64 (t7001 * t7002))) = true := beq_iff_eq.mpr c46
                  have c46b1 : (x6_2 != (wrap64 (t7001 * t7002))) = false := bne_eq_false_iff_eq.mpr c46
                  clear c46
                  replace H := Option.bind_eq_some_iff.mp H
                  obtain ⟨t7022, A470, H⟩ := H
                  replace H : (some (t7022 == x6_2)) = some r := H
                  have A47 := Aside0.mk A470
                  clear A470
                  obtain rfl := Option.some.inj H
                  obtain ⟨Ao48, co48, eo48⟩ := Kd.R_slice HO_4.out
                  subst eo48
                  have hcz49_0 : wr.cell? ⟨gb7007, 0, none⟩ = some (.int .i64 t7001) := (blk_cell BK7007.out 0).trans rfl
                  have hcz49_1 : wr.cell? ⟨gb7007, 1, none⟩ = some (.int .i64 t7002) := (blk_cell BK7007.out 1).trans rfl
                  have hcz49_2 : wr.cell? ⟨gb7007, 2, none⟩ = some (.int .i64 t7003) := (blk_cell BK7007.out 2).trans rfl
                  have hcz49_3 : wr.cell? ⟨gb7007, 3, none⟩ = some (.slice Ao9 t7004.length co9) := (blk_cell BK7007.out 3).trans rfl
                  have hfz49_0 := blk_frozen BK7007.out 0
                  have hfz49_1 := blk_frozen BK7007.out 1
                  have hfz49_2 := blk_frozen BK7007.out 2
                  have hfz49_3 := blk_frozen BK7007.out 3
                  obtain ⟨Ao50, co50, eo50⟩ := Kd.R_slice HO_5.out
                  subst eo50
                  go_wp2_with (first | (go_at_call 37; (with_reducible refine (impl_AreaOf.calls k2 _ _ x5_2 t7022 _ ?side1 ?side2 A47.out).mono ?_); (case side1 => repeat (first | exact (Kd.R_reads' HO_5.out).2.2 | (with_reducible refine Kd.C_alloc ?_ _) | (with_reducible refine Kd.C_drewN ?_ _) | (with_reducible refine Kd.C_drew ?_))); (case side2 => exact (Kd.R_reads' HO_5.out).2.1); rintro e w51 ⟨rfl, hb⟩; have n0_ := Aside0.mk (Kd.R_below (by (with_reducible repeat (first | apply Kd.R_alloc | apply Kd.R_drewN | apply Kd.R_drew)); exact HO_4.out) hb); have n1_ := Aside0.mk (Kd.R_below (by (with_reducible repeat (first | apply Kd.R_alloc | apply Kd.R_drewN | apply Kd.R_drew)); exact HO_5.out) hb); have n2_ := Aside0.mk (Kd.Q_below (by (with_reducible repeat (first | apply Kd.Q_alloc | apply Kd.Q_drewN | apply Kd.Q_drew)); exact HO_7008003.out) hb); have n3_ := Aside0.mk (blk_below (g := gb7007) (o := .cells #[.int .i64 t7001, .int .i64 t7002, .int .i64 t7003, .slice Ao9 t7004.length co9] 27 (0, 0)) (by (with_reducible repeat (first | refine blk_drewN ?_ _ | refine blk_drew ?_ | refine blk_alloc ?_ _)); exact BK7007.out) hb); have n4_ := Aside0.mk (below_step (by repeat (first | (with_reducible first | exact HB.out | apply below_alloc | apply pw_below_drewN | apply below_drew1 | refine below_set ?_ GE7007.out) | exact HB.out)) hb); clear HO_4; clear HO_5; clear HO_7008003; clear BK7007; clear HB; have HO_4 := n0_; have HO_5 := n1_; have HO_7008003 := n2_; have BK7007 := n3_; have HB := n4_; clear n0_ n1_ n2_ n3_ n4_; (try clear hb); (try clear hb2); (try clear hk); (try clear hi)))
                  go_ret
                  exact ⟨by first | rfl | (simp [errW_none, errW_some] <;> rfl) | (simp [*, errW_none, errW_some] <;> rfl), by repeat (first | (with_reducible first | exact HB.out | apply below_alloc | apply pw_below_drewN | apply below_drew1 | refine below_set ?_ GE7007.out) | exact HB.out)⟩
                · rw [if_neg c46] at H
                  have c46b0 : (x6_2 == (wrap64 (t7001 * t7002))) = false := beq_eq_false_iff_ne.mpr c46
                  have c46b1 : (x6_2 != (wrap64 (t7001 * t7002))) = true := bne_iff_ne.mpr c46
                  obtain rfl := Option.some.inj H
                  obtain ⟨Ao52, co52, eo52⟩ := Kd.R_slice HO_4.out
                  subst eo52
                  have hcz53_0 : wr.cell? ⟨gb7007, 0, none⟩ = some (.int .i64 t7001) := (blk_cell BK7007.out 0).trans rfl
                  have hcz53_1 : wr.cell? ⟨gb7007, 1, none⟩ = some (.int .i64 t7002) := (blk_cell BK7007.out 1).trans rfl
                  have hcz53_2 : wr.cell? ⟨gb7007, 2, none⟩ = some (.int .i64 t7003) := (blk_cell BK7007.out 2).trans rfl
                  have hcz53_3 : wr.cell? ⟨gb7007, 3, none⟩ = some (.slice Ao9 t7004.length co9) := (blk_cell BK7007.out 3).trans rfl
                  have hfz53_0 := blk_frozen BK7007.out 0
                  have hfz53_1 := blk_frozen BK7007.out 1
                  have hfz53_2 := blk_frozen BK7007.out 2
                  have hfz53_3 := blk_frozen BK7007.out 3
                  go_wp2
                  go_ret
                  exact ⟨by first | rfl | (simp [errW_none, errW_some] <;> rfl) | (simp [*, errW_none, errW_some] <;> rfl), by repeat (first | (with_reducible first | exact HB.out | apply below_alloc | apply pw_below_drewN | apply below_drew1 | refine below_set ?_ GE7007.out) | exact HB.out)⟩

/-- THE ONE PURE STATEMENT of laws_FnTileBoxes: yours. -/
def laws_FnTileBoxes.Pure : Prop := ∀ (l0 : List Int), l0.length ≤ maxLen → l0.length * 1 ≤ 140737488351232 → (∀ x ∈ l0, (Lit.int .u8 x).wf = true) → ∃ k, laws_FnTileBoxes.f k l0 = some true
theorem laws_FnTileBoxes.walk (P : laws_FnTileBoxes.Pure) (a0 : Option Addr) (len0 cap0 : Nat) (z0 : List Int) (w : World) (w0 : (a0 = none ∧ len0 = 0 ∧ cap0 = 0 ∧ z0 = []) ∨ ∃ x, a0 = some x ∧ len0 ≤ cap0 ∧ cap0 ≤ maxLen ∧ z0.length = cap0 ∧ (∀ i, i < z0.length → w.cell? (x.add i) = some (.int .u8 (z0.getD i 0))) ∧ ∀ n ∈ z0, (Lit.int .u8 n).wf = true) (y0 : len0 * 1 ≤ 140737488351232) :
    Calls Try.prog 6 #[.slice a0 len0 cap0] w fun e w' => e = .returned (.bool true) ∧ Below w.heap.size w w' := by
  obtain ⟨l0, rfl, hr0, hm0, hw0, hc0⟩ := ReadsInt.ofRowC w0
  obtain ⟨k, h⟩ := P l0 hm0 y0 hw0
  refine (laws_FnTileBoxes.calls k _ _ l0 true w (Kd.C_of_reads (d := (0 : Int)) (h1 := fun _ => rfl) hr0) hc0 h rfl).mono ?_
  rintro e w' ⟨rfl, hd⟩
  exact ⟨rfl, hd⟩

end Go.Proofs.Ytnofkbbcbpjhfaa.Q

/- Images: valid ones, as the program and the reference have it; copies of lists of numbers. -/
namespace Go.Proofs.Ytnofkbbcbpjhfaa.Pure
open Go.RowKit Go.Proofs.Ytnofkbbcbpjhfaa.Q Go.Proofs.YtnofkbbcbpjhfaaW.PrintWords Go.Proofs.YtnofkbbcbpjhfaaW.PrintLast Go.Proofs.YtnofkbbcbpjhfaaW.PrintMore
set_option linter.unusedVariables false
set_option linter.unusedSimpArgs false

def byteI (n : Int) : Bool := decide (0 ≤ n) && decide (n ≤ 255)
def shapeI (w h p : Int) : Bool := decide (1 ≤ w ∧ w ≤ 16 ∧ 1 ≤ h ∧ h ≤ 16 ∧ 1 ≤ p ∧ p ≤ 4)
theorem shapeI_iff (w h p : Int) : shapeI w h p = true ↔ 1 ≤ w ∧ w ≤ 16 ∧ 1 ≤ h ∧ h ≤ 16 ∧ 1 ≤ p ∧ p ≤ 4 := by simp [shapeI]
def validI (w h p : Int) (d : List Int) : Bool := shapeI w h p && (decide ((d.length : Int) = w * h * p) && d.all byteI)
theorem validI_iff (w h p : Int) (d : List Int) : validI w h p d = true ↔ (1 ≤ w ∧ w ≤ 16 ∧ 1 ≤ h ∧ h ≤ 16 ∧ 1 ≤ p ∧ p ≤ 4) ∧ (d.length : Int) = w * h * p ∧ ∀ n ∈ d, 0 ≤ n ∧ n ≤ 255 := by
  simp [validI, shapeI_iff, byteI, and_assoc]
theorem shape_prod {w h p : Int} (hs : 1 ≤ w ∧ w ≤ 16 ∧ 1 ≤ h ∧ h ≤ 16 ∧ 1 ≤ p ∧ p ≤ 4) : 0 ≤ w * h ∧ w * h ≤ 256 ∧ 0 ≤ w * h * p ∧ w * h * p ≤ 1024 := by
  have h1 : 0 ≤ w * h := Int.mul_nonneg (by omega) (by omega)
  have h2 : w * h ≤ 16 * 16 := Int.mul_le_mul (by omega) (by omega) (by omega) (by omega)
  have h3 : 0 ≤ w * h * p := Int.mul_nonneg h1 (by omega)
  have h4 : w * h * p ≤ 256 * 4 := Int.mul_le_mul (by omega) (by omega) (by omega) (by omega)
  omega
theorem shape_wrap {w h p : Int} (hs : 1 ≤ w ∧ w ≤ 16 ∧ 1 ≤ h ∧ h ≤ 16 ∧ 1 ≤ p ∧ p ≤ 4) : wrap64 (wrap64 (w * h) * p) = w * h * p := by
  have := shape_prod hs
  rw [w64 (x := w * h) (by omega) (by omega), w64 (by omega) (by omega)]
theorem impl_isSide_eq (a : Int) : impl_isSide.f a = some (decide (1 ≤ a ∧ a ≤ 16)) := by
  unfold impl_isSide.f
  by_cases c : a ≥ 1
  · rw [if_pos c]; congr 1; rw [decide_eq_decide]; omega
  · rw [if_neg c, decide_eq_false (by omega)]
theorem impl_isShape_eq (w h p : Int) : impl_isShape.f w h p = some (shapeI w h p) := by
  unfold impl_isShape.f shapeI
  rw [impl_isSide_eq, impl_isSide_eq]
  simp only [Option.bind_some]
  by_cases c1 : 1 ≤ w ∧ w ≤ 16
  · rw [if_pos (by simpa using c1)]
    by_cases c2 : 1 ≤ h ∧ h ≤ 16
    · rw [if_pos (by simpa using c2)]
      by_cases c3 : p ≥ 1
      · rw [if_pos c3]; congr 1; rw [decide_eq_decide]; omega
      · rw [if_neg c3, decide_eq_false (by omega)]
    · rw [if_neg (by simpa using c2), decide_eq_false (by omega)]
  · rw [if_neg (by simpa using c1), decide_eq_false (by omega)]
theorem areBytesI_eq (l : List Int) : impl_areBytes.f l = some (l.all byteI) := by
  unfold impl_areBytes.f
  congr 1
  rw [List.not_any_eq_all_not]
  congr 1
  funext n
  unfold notByte byteI
  rw [Bool.eq_iff_iff]
  simp
theorem impl_isImage_eq (w h p : Int) (d : List Int) : impl_isImage.f w h p d = some (validI w h p d) := by
  unfold impl_isImage.f validI
  rw [impl_isShape_eq, areBytesI_eq]
  simp only [Option.bind_some]
  by_cases c : shapeI w h p = true
  · rw [if_pos c, shape_wrap ((shapeI_iff w h p).1 c), c]
    by_cases e : (d.length : Int) = w * h * p
    · rw [if_pos e, decide_eq_true e]; rfl
    · rw [if_neg e, decide_eq_false e]; rfl
  · rw [if_neg c, Bool.eq_false_iff.2 c]; rfl
theorem spec_inRangeI_eq (n a b : Int) : spec_inRange.f n a b = some (decide (a ≤ n) && decide (n ≤ b)) := by
  unfold spec_inRange.f
  by_cases c : a ≤ n
  · rw [if_pos c, decide_eq_true c, Bool.true_and]
  · rw [if_neg c, decide_eq_false c, Bool.false_and]
theorem spec_validShape_eq (w h p : Int) : spec_validShape.f w h p = some (shapeI w h p) := by
  unfold spec_validShape.f shapeI
  rw [spec_inRangeI_eq, spec_inRangeI_eq, spec_inRangeI_eq]
  simp only [Option.bind_some]
  by_cases c1 : 1 ≤ w ∧ w ≤ 16
  · rw [if_pos (by simpa using c1)]
    by_cases c2 : 1 ≤ h ∧ h ≤ 16
    · rw [if_pos (by simpa using c2)]; congr 1; rw [Bool.eq_iff_iff]; simp; omega
    · rw [if_neg (by simpa using c2), decide_eq_false (by omega)]
  · rw [if_neg (by simpa using c1), decide_eq_false (by omega)]
theorem spec_allInI_ev (l : List Int) (hl : l.length ≤ 1000000000000) : Ev (fun k => spec_allIn.f k l 0 255) (l.all byteI) := by
  have key := ev_up l.length (fun k i (_ : Unit) => spec_allIn.l0 k l 0 255 (i : Int)) (fun _ _ => True) (fun i _ => (l.drop i).all byteI)
    (by
      intro i s hi _
      have hd : (l.drop i).all byteI = (byteI l[i] && (l.drop (i + 1)).all byteI) := by rw [List.drop_eq_getElem_cons hi, List.all_cons]
      cases hb : byteI l[i] with
      | true =>
        right
        refine ⟨(), fun k => ?_, trivial, by rw [hd, hb, Bool.true_and]⟩
        simp only [spec_allIn.l0]
        rw [if_pos (by omega), if_pos (by omega), rd_nat l i hi, spec_inRangeI_eq]
        simp only [Option.bind_some]
        rw [if_pos (show (decide (0 ≤ l[i]) && decide (l[i] ≤ 255)) = true from hb), w64n i (by omega)]
      | false =>
        left
        rw [hd, hb, Bool.false_and]
        refine Ev.step (f := fun _ => some false) (fun k => ?_) (Ev.now false)
        simp only [spec_allIn.l0]
        rw [if_pos (by omega), if_pos (by omega), rd_nat l i hi, spec_inRangeI_eq]
        simp only [Option.bind_some]
        rw [if_neg (Bool.eq_false_iff.1 (show (decide (0 ≤ l[i]) && decide (l[i] ≤ 255)) = false from hb))])
    (by
      intro s _
      rw [List.drop_length]
      refine Ev.step (f := fun _ => some true) (fun k => ?_) (Ev.now true)
      simp only [spec_allIn.l0]
      rw [if_neg (by omega)])
    l.length 0 () (by omega) trivial
  unfold spec_allIn.f
  simpa using key
theorem spec_validImage_ev (w h p : Int) (d : List Int) (hl : d.length ≤ 1000000000000) : Ev (fun k => spec_validImage.f k w h p d) (validI w h p d) := by
  unfold spec_validImage.f validI
  refine ev_now (spec_validShape_eq w h p) ?_
  by_cases c : shapeI w h p = true
  · refine ev_pos c ?_
    rw [shape_wrap ((shapeI_iff w h p).1 c), c, Bool.true_and]
    by_cases e : (d.length : Int) = w * h * p
    · refine ev_pos e ?_
      rw [decide_eq_true e, Bool.true_and]
      exact ev_bind (spec_allInI_ev d hl) (Ev.now _)
    · refine ev_neg e ?_
      rw [decide_eq_false e]
      exact Ev.now _
  · refine ev_neg c ?_
    rw [Bool.eq_false_iff.2 c]
    exact Ev.now _
end Go.Proofs.Ytnofkbbcbpjhfaa.Pure

/- Copies of a list of Box: they are the list. -/
namespace Go.Proofs.Ytnofkbbcbpjhfaa.Pure
open Go.RowKit Go.Proofs.Ytnofkbbcbpjhfaa.Q Go.Proofs.YtnofkbbcbpjhfaaW.PrintWords Go.Proofs.YtnofkbbcbpjhfaaW.PrintLast Go.Proofs.YtnofkbbcbpjhfaaW.PrintMore
set_option linter.unusedVariables false
set_option linter.unusedSimpArgs false

abbrev Box := S47
theorem rdBox (l : List Box) (i : Nat) (h : i < l.length) : rd_T47 l (i : Int) = l[i] := by simp [rd_T47, h]
end Go.Proofs.Ytnofkbbcbpjhfaa.Pure

/- The boxes of an image's tiles, as the program and the reference have them. -/
namespace Go.Proofs.Ytnofkbbcbpjhfaa.Pure
open Go.RowKit Go.Proofs.Ytnofkbbcbpjhfaa.Q Go.Proofs.YtnofkbbcbpjhfaaW.PrintWords Go.Proofs.YtnofkbbcbpjhfaaW.PrintLast Go.Proofs.YtnofkbbcbpjhfaaW.PrintMore
set_option linter.unusedVariables false
set_option linter.unusedSimpArgs false

def colsOf (w : Nat) : Nat := (w + 3) / 4
def tileN (w h : Nat) (t : Nat) : Box := ⟨((t % colsOf w * 4 : Nat) : Int), ((t / colsOf w * 4 : Nat) : Int), mn 4 ((w : Int) - ((t % colsOf w * 4 : Nat) : Int)), mn 4 ((h : Int) - ((t / colsOf w * 4 : Nat) : Int))⟩
def tilesN (w h : Nat) (n : Nat) : List Box := (List.range n).map (tileN w h)
def tilesV (w h : Nat) : List Box := tilesN w h (colsOf w * colsOf h)
theorem tilesN_length (w h n : Nat) : (tilesN w h n).length = n := by simp [tilesN]
theorem tilesN_succ (w h n : Nat) : tilesN w h (n + 1) = tilesN w h n ++ [tileN w h n] := by simp [tilesN, List.range_succ]
theorem cols_bounds (w : Nat) (h1 : 1 ≤ w) (h2 : w ≤ 16) : 1 ≤ colsOf w ∧ colsOf w ≤ 4 := by unfold colsOf; omega
theorem tiles_count (w h : Nat) (h1 : 1 ≤ w) (h2 : w ≤ 16) (h3 : 1 ≤ h) (h4 : h ≤ 16) : 1 ≤ colsOf w * colsOf h ∧ colsOf w * colsOf h ≤ 16 := by
  have a := cols_bounds w h1 h2
  have b := cols_bounds h h3 h4
  have := Nat.mul_le_mul a.2 b.2
  have := Nat.mul_le_mul a.1 b.1
  omega
theorem tileN_at (w h r c : Nat) (hc : c < colsOf w) : tileN w h (r * colsOf w + c) = ⟨((c * 4 : Nat) : Int), ((r * 4 : Nat) : Int), mn 4 ((w : Int) - ((c * 4 : Nat) : Int)), mn 4 ((h : Int) - ((r * 4 : Nat) : Int))⟩ := by
  have e1 : (r * colsOf w + c) % colsOf w = c := by rw [Nat.mul_comm, Nat.mul_add_mod, Nat.mod_eq_of_lt hc]
  have e2 : (r * colsOf w + c) / colsOf w = r := by rw [Nat.mul_comm, Nat.mul_add_div (by omega), Nat.div_eq_of_lt hc, Nat.add_zero]
  unfold tileN
  rw [e1, e2]
theorem impl_tileBoxes_ev (w h : Nat) (p : Int) (d : List Int) (h1 : 1 ≤ w) (h2 : w ≤ 16) (h3 : 1 ≤ h) (h4 : h ≤ 16) : Ev (fun k => impl_tileBoxes.f k w h p d) (tilesV w h) := by
  have hc := cols_bounds w h1 h2
  have hr := cols_bounds h h3 h4
  have key := ev_up2 (colsOf h) (fun k r (s : List Box) => impl_tileBoxes.l0 k s ((r * 4 : Nat) : Int) w h p d) (fun r s => s = tilesN w h (r * colsOf w)) (fun _ _ => tilesV w h)
    (by
      intro r s hrr hs
      right
      refine ⟨tilesN w h ((r + 1) * colsOf w), fun R hR => ?_, rfl, rfl⟩
      have inner := ev_up2 (colsOf w) (fun k c (s : List Box) => impl_tileBoxes.l1 k s ((r * 4 : Nat) : Int) ((c * 4 : Nat) : Int) w h p d) (fun c s => s = tilesN w h (r * colsOf w + c)) (fun _ _ => R)
        (by
          intro c s hcc hs
          right
          refine ⟨tilesN w h (r * colsOf w + (c + 1)), fun R' hR' => ?_, rfl, rfl⟩
          refine Ev.step (fun k => ?_) hR'
          have hlen : s.length = r * colsOf w + c := by rw [hs, tilesN_length]
          have hm : r * colsOf w ≤ 4 * 4 := Nat.mul_le_mul (by omega) hc.2
          have hcw : c * 4 < w := by unfold colsOf at hcc; omega
          have hrh : r * 4 < h := by unfold colsOf at hrr; omega
          simp only [impl_tileBoxes.l1]
          rw [if_pos (by omega), if_pos (by omega), w64 (x := ((c * 4 : Nat) : Int) + 4) (by omega) (by omega), w64 (x := (w : Int) - ((c * 4 : Nat) : Int)) (by omega) (by omega), w64 (x := (h : Int) - ((r * 4 : Nat) : Int)) (by omega) (by omega), ← Nat.add_assoc, tilesN_succ, tileN_at w h r c hcc, ← hs, show ((c * 4 : Nat) : Int) + 4 = (((c + 1) * 4 : Nat) : Int) by omega])
        (by
          intro s hs
          refine Ev.step (fun k => ?_) (show Ev (fun k => impl_tileBoxes.l0 k s (((r + 1) * 4 : Nat) : Int) w h p d) R from by rw [hs, ← Nat.succ_mul]; exact hR)
          have hcw : ¬ colsOf w * 4 < w := by unfold colsOf; omega
          simp only [impl_tileBoxes.l1]
          rw [if_neg (by omega), w64 (x := ((r * 4 : Nat) : Int) + 4) (by omega) (by omega), show ((r * 4 : Nat) : Int) + 4 = (((r + 1) * 4 : Nat) : Int) by omega])
        (colsOf w) 0 s (by omega) (by rw [hs, Nat.add_zero])
      have inner' : Ev (fun k => impl_tileBoxes.l1 k s ((r * 4 : Nat) : Int) 0 w h p d) R := inner
      refine Ev.step (fun k => ?_) inner'
      have hrh : r * 4 < h := by unfold colsOf at hrr; omega
      simp only [impl_tileBoxes.l0]
      rw [if_pos (by omega)])
    (by
      intro s hs
      refine Ev.step (f := fun _ => some s) (fun k => ?_) (ev_const ?_)
      · have hrh : ¬ colsOf h * 4 < h := by unfold colsOf; omega
        simp only [impl_tileBoxes.l0]
        rw [if_neg (by omega)]
      · rw [hs, Nat.mul_comm]; rfl)
    (colsOf h) 0 [] (by omega) (by simp [tilesN])
  unfold impl_tileBoxes.f
  simpa using key
theorem colsI (w : Nat) (h2 : w ≤ 16) : wrap64 (Int.tdiv (wrap64 ((wrap64 ((w : Int) + 4)) - 1)) 4) = ((colsOf w : Nat) : Int) := by
  rw [w64 (x := (w : Int) + 4) (by omega) (by omega), w64 (x := (w : Int) + 4 - 1) (by omega) (by omega), tdiv_nn _ _ (by omega), w64 (by omega) (by omega)]
  unfold colsOf
  omega
theorem spec_tileCount_eq (w h : Nat) (p : Int) (d : List Int) (h1 : 1 ≤ w) (h2 : w ≤ 16) (h3 : 1 ≤ h) (h4 : h ≤ 16) : spec_tileCount.f w h p d = some ((colsOf w * colsOf h : Nat) : Int) := by
  have := tiles_count w h h1 h2 h3 h4
  unfold spec_tileCount.f
  rw [colsI w h2, colsI h h4, ← Int.natCast_mul, w64 (by omega) (by omega)]
theorem spec_tileBox_eq (w h : Nat) (p : Int) (d : List Int) (t : Nat) (h1 : 1 ≤ w) (h2 : w ≤ 16) (h3 : 1 ≤ h) (h4 : h ≤ 16) (ht : t < 1000) : spec_tileBox.f w h p d t = some ((tileN w h t).f0, (tileN w h t).f1, (tileN w h t).f2, (tileN w h t).f3) := by
  have hc := cols_bounds w h1 h2
  have hm : t % colsOf w < colsOf w := Nat.mod_lt _ (by omega)
  have hd : t / colsOf w ≤ t := Nat.div_le_self _ _
  have e1 : Int.tmod (t : Int) ((colsOf w : Nat) : Int) = ((t % colsOf w : Nat) : Int) := by rw [tmod_nn _ _ (by omega)]; rfl
  have e2 : Int.tdiv (t : Int) ((colsOf w : Nat) : Int) = ((t / colsOf w : Nat) : Int) := by rw [tdiv_nn _ _ (by omega)]; rfl
  unfold spec_tileBox.f tileN
  rw [colsI w h2, if_neg (by omega), e1, e2]
  generalize t % colsOf w = a at *
  generalize t / colsOf w = b at *
  rw [w64 (x := ((b : Nat) : Int)) (by omega) (by omega), w64 (x := ((b : Nat) : Int) * 4) (by omega) (by omega), w64 (x := ((a : Nat) : Int) * 4) (by omega) (by omega), w64 (x := (w : Int) - ((a : Nat) : Int) * 4) (by omega) (by omega), w64 (x := (h : Int) - ((b : Nat) : Int) * 4) (by omega) (by omega)]
  simp
/-- what both return -/
def tilesOf (w h p : Int) (d : List Int) : List Box := if validI w h p d = true then tilesV w.toNat h.toNat else []
theorem tilesOf_len (w h p : Int) (d : List Int) : (tilesOf w h p d).length ≤ 16 := by
  unfold tilesOf
  split
  · rename_i c
    have hv := (validI_iff w h p d).1 c
    have := tiles_count w.toNat h.toNat (by omega) (by omega) (by omega) (by omega)
    unfold tilesV
    rw [tilesN_length]
    omega
  · simp
end Go.Proofs.Ytnofkbbcbpjhfaa.Pure

/- TileBoxes, as the program and the reference have it. -/
namespace Go.Proofs.Ytnofkbbcbpjhfaa.Pure
open Go.RowKit Go.Proofs.Ytnofkbbcbpjhfaa.Q Go.Proofs.YtnofkbbcbpjhfaaW.PrintWords Go.Proofs.YtnofkbbcbpjhfaaW.PrintLast Go.Proofs.YtnofkbbcbpjhfaaW.PrintMore
set_option linter.unusedVariables false
set_option linter.unusedSimpArgs false

theorem impl_TileBoxes_ev (w h p : Int) (d : List Int) : Ev (fun k => impl_TileBoxes.f k w h p d) (tilesOf w h p d) := by
  unfold impl_TileBoxes.f tilesOf
  refine ev_now (impl_isImage_eq w h p d) ?_
  by_cases c : validI w h p d = true
  · rw [if_pos c]
    refine ev_pos c ?_
    have hv := (validI_iff w h p d).1 c
    obtain ⟨W, rfl⟩ := Int.eq_ofNat_of_zero_le (show 0 ≤ w by omega)
    obtain ⟨H, rfl⟩ := Int.eq_ofNat_of_zero_le (show 0 ≤ h by omega)
    exact ev_bind (impl_tileBoxes_ev W H p d (by omega) (by omega) (by omega) (by omega)) (Ev.now _)
  · rw [if_neg c]
    exact ev_neg c (Ev.now _)
theorem spec_TileBoxes_ev (w h p : Int) (d : List Int) (hl : d.length ≤ 1000000000000) : Ev (fun k => spec_TileBoxes.f k w h p d) (tilesOf w h p d) := by
  unfold spec_TileBoxes.f tilesOf
  refine ev_bind (spec_validImage_ev w h p d hl) ?_
  by_cases c : validI w h p d = true
  · rw [if_pos c]
    refine ev_pos c ?_
    have hv := (validI_iff w h p d).1 c
    obtain ⟨W, rfl⟩ := Int.eq_ofNat_of_zero_le (show 0 ≤ w by omega)
    obtain ⟨H, rfl⟩ := Int.eq_ofNat_of_zero_le (show 0 ≤ h by omega)
    have h1 : 1 ≤ W := by omega
    have h2 : W ≤ 16 := by omega
    have h3 : 1 ≤ H := by omega
    have h4 : H ≤ 16 := by omega
    have hn := tiles_count W H h1 h2 h3 h4
    have key := ev_up (colsOf W * colsOf H) (fun k t (s : List Box) => spec_TileBoxes.l0 k s (t : Int) W H p d) (fun t s => s = tilesN W H t) (fun _ _ => tilesV W H)
      (by
        intro t s ht hs
        right
        refine ⟨tilesN W H (t + 1), fun k => ?_, rfl, rfl⟩
        have hlen : s.length = t := by rw [hs, tilesN_length]
        simp only [spec_TileBoxes.l0]
        rw [spec_tileCount_eq W H p d h1 h2 h3 h4]
        simp only [Option.bind_some]
        rw [if_pos (by omega), spec_tileBox_eq W H p d t h1 h2 h3 h4 (by omega)]
        simp only [Option.bind_some]
        rw [if_pos (by omega), tilesN_succ, ← hs, w64n t (by omega)])
      (by
        intro s hs
        refine Ev.step (f := fun _ => some s) (fun k => ?_) (ev_const (by rw [hs]; rfl))
        simp only [spec_TileBoxes.l0]
        rw [spec_tileCount_eq W H p d h1 h2 h3 h4]
        simp only [Option.bind_some]
        rw [if_neg (by omega)])
      (colsOf W * colsOf H) 0 [] (by omega) (by simp [tilesN])
    exact key
  · rw [if_neg c]
    exact ev_neg c (Ev.now _)
end Go.Proofs.Ytnofkbbcbpjhfaa.Pure

/- Grids and their runs, as the reference has them: lists of 256 bools. -/
namespace Go.Proofs.Ytnofkbbcbpjhfaa.Pure
open Go.RowKit Go.Proofs.Ytnofkbbcbpjhfaa.Q Go.Proofs.YtnofkbbcbpjhfaaW.PrintWords Go.Proofs.YtnofkbbcbpjhfaaW.PrintLast Go.Proofs.YtnofkbbcbpjhfaaW.PrintMore
set_option linter.unusedVariables false
set_option linter.unusedSimpArgs false

/-- a grid's cells beyond 256 do not matter to its runs -/
theorem endAt_congr {g g' : Nat → Bool} (h : ∀ p, p < 256 → g p = g' p) (y : Nat) (hy : y < 16) : ∀ n x, endAt g y n x = endAt g' y n x := by
  intro n
  induction n with
  | zero => intro x; rfl
  | succ n ih =>
    intro x
    unfold endAt
    by_cases hx : x < 16
    · rw [h (y * 16 + x) (by omega), ih (x + 1)]
    · rw [if_neg (fun c => hx c.1), if_neg (fun c => hx c.1)]
theorem scan_congr {g g' : Nat → Bool} (h : ∀ p, p < 256 → g p = g' p) (y : Nat) (hy : y < 16) : ∀ d x, 17 ≤ x + d → scanRow g y x = scanRow g' y x := by
  intro d
  induction d with
  | zero => intro x hx; rw [scan_end g y x (by omega), scan_end g' y x (by omega)]
  | succ d ih =>
    intro x hx
    by_cases h16 : x < 16
    · cases hv : g (y * 16 + x) with
      | true =>
        have hv' : g' (y * 16 + x) = true := by rw [← h _ (by omega)]; exact hv
        have := endAt_ge g y (16 - x) x
        rw [scan_true g y x h16 hv, scan_true g' y x h16 hv', endAt_congr h y hy, ih _ (by rw [← endAt_congr h y hy]; omega)]
      | false =>
        have hv' : g' (y * 16 + x) = false := by rw [← h _ (by omega)]; exact hv
        rw [scan_false g y x h16 hv, scan_false g' y x h16 hv', ih _ (by omega)]
    · rw [scan_end g y x (by omega), scan_end g' y x (by omega)]
theorem runsL_congr {g g' : Nat → Bool} (h : ∀ p, p < 256 → g p = g' p) : runsL g = runsL g' := by
  unfold runsL runsTo
  rw [List.flatMap_def, List.flatMap_def]
  congr 1
  apply List.map_congr_left
  intro y hy
  exact scan_congr h y (by simpa using hy) 17 0 (by omega)
/-! the reference's grid -/
/-! the reference's runs -/
end Go.Proofs.Ytnofkbbcbpjhfaa.Pure

/- Neighbours of a grid's pixels, by their numbers; a loop that fills a grid. -/
namespace Go.Proofs.Ytnofkbbcbpjhfaa.Pure
open Go.RowKit Go.Proofs.Ytnofkbbcbpjhfaa.Q Go.Proofs.YtnofkbbcbpjhfaaW.PrintWords Go.Proofs.YtnofkbbcbpjhfaaW.PrintLast Go.Proofs.YtnofkbbcbpjhfaaW.PrintMore
set_option linter.unusedVariables false
set_option linter.unusedSimpArgs false

theorem gso_at (so : Nat → Nat → Bool) (p : Nat) (h : p < 256) : gso so 256 p = so (p % 16) (p / 16) := by
  unfold gso; rw [decide_eq_true h, Bool.true_and]
end Go.Proofs.Ytnofkbbcbpjhfaa.Pure

/- The region of a box, as the program and the reference have it. -/
namespace Go.Proofs.Ytnofkbbcbpjhfaa.Pure
open Go.RowKit Go.Proofs.Ytnofkbbcbpjhfaa.Q Go.Proofs.YtnofkbbcbpjhfaaW.PrintWords Go.Proofs.YtnofkbbcbpjhfaaW.PrintLast Go.Proofs.YtnofkbbcbpjhfaaW.PrintMore
set_option linter.unusedVariables false
set_option linter.unusedSimpArgs false

theorem scanRow_len (g : Nat → Bool) (y : Nat) : ∀ d x, 17 ≤ x + d → (scanRow g y x).length ≤ 17 - x := by
  intro d
  induction d with
  | zero => intro x hx; rw [scan_end g y x (by omega)]; simp
  | succ d ih =>
    intro x hx
    by_cases h16 : x < 16
    · cases hv : g (y * 16 + x) with
      | true =>
        have := endAt_ge g y (16 - x) x
        rw [scan_true g y x h16 hv, List.length_cons]
        have := ih (endAt g y (16 - x) x + 1) (by omega)
        omega
      | false =>
        rw [scan_false g y x h16 hv]
        have := ih (x + 1) (by omega)
        omega
    · rw [scan_end g y x (by omega)]; simp
theorem runsTo_len (g : Nat → Bool) (n : Nat) : (runsTo g n).length ≤ 17 * n := by
  induction n with
  | zero => simp [runsTo]
  | succ n ih =>
    rw [runsTo_succ, List.length_append]
    have := scanRow_len g n 17 0 (by omega)
    omega
theorem runsL_len (g : Nat → Bool) : (runsL g).length ≤ 272 := runsTo_len g 16
theorem scan_none (g : Nat → Bool) (y : Nat) (h : ∀ x, x < 16 → g (y * 16 + x) = false) : scanRow g y 0 = [] := by
  have : ∀ d x, 16 ≤ x + d → scanRow g y x = [] := by
    intro d
    induction d with
    | zero => intro x hx; exact scan_end g y x (by omega)
    | succ d ih =>
      intro x hx
      by_cases h16 : x < 16
      · rw [scan_false g y x h16 (h x h16)]; exact ih (x + 1) (by omega)
      · exact scan_end g y x (by omega)
  exact this 16 0 (by omega)
theorem scan_seg (g : Nat → Bool) (y a b : Nat) (hab : a < b) (hb : b ≤ 16) (h : ∀ x, x < 16 → g (y * 16 + x) = (decide (a ≤ x) && decide (x < b))) : scanRow g y 0 = [⟨(y : Int), (a : Int), (b : Int)⟩] := by
  have e1 : ∀ d x, x + d = a → scanRow g y x = scanRow g y a := by
    intro d
    induction d with
    | zero => intro x hx; rw [show x = a by omega]
    | succ d ih =>
      intro x hx
      rw [scan_false g y x (by omega) (by rw [h x (by omega)]; simp; omega)]
      exact ih (x + 1) (by omega)
  have e2 : ∀ d x, x + d = b → a ≤ x → endAt g y (16 - x) x = b := by
    intro d
    induction d with
    | zero =>
      intro x hx ha
      rw [show x = b by omega]
      apply endAt_stop
      by_cases hb' : b < 16
      · right; rw [h b hb']; simp
      · left; omega
    | succ d ih =>
      intro x hx ha
      rw [endAt_step g y x (by omega) (by rw [h x (by omega)]; simp; omega)]
      exact ih (x + 1) (by omega) (by omega)
  have e3 : ∀ d x, 16 ≤ x + d → b ≤ x → scanRow g y x = [] := by
    intro d
    induction d with
    | zero => intro x hx _; exact scan_end g y x (by omega)
    | succ d ih =>
      intro x hx hbx
      by_cases h16 : x < 16
      · rw [scan_false g y x h16 (by rw [h x h16]; simp; omega)]
        exact ih (x + 1) (by omega) (by omega)
      · exact scan_end g y x (by omega)
  rw [e1 a 0 (by omega), scan_true g y a (by omega) (by rw [h a (by omega)]; simp; omega), e2 (b - a) a (by omega) (Nat.le_refl _), e3 16 (b + 1) (by omega) (by omega)]
/-- the runs of a box: one a row -/
def boxRuns (b0 b1 b2 b3 : Int) (n : Nat) : List Run := (List.range n).map fun (i : Nat) => ⟨b1 + (i : Int), b0, b0 + b2⟩
theorem boxRuns_succ (b0 b1 b2 b3 : Int) (n : Nat) : boxRuns b0 b1 b2 b3 (n + 1) = boxRuns b0 b1 b2 b3 n ++ [⟨b1 + (n : Int), b0, b0 + b2⟩] := by simp [boxRuns, List.range_succ]
theorem boxOk_iff (b0 b1 b2 b3 : Int) : boxOk b0 b1 b2 b3 = true ↔ 0 ≤ b0 ∧ b0 < 16 ∧ 0 ≤ b1 ∧ b1 < 16 ∧ 1 ≤ b2 ∧ b2 ≤ 16 - b0 ∧ 1 ≤ b3 ∧ b3 ≤ 16 - b1 := by simp [boxOk]
theorem runs_box (b0 b1 b2 b3 : Int) (h : boxOk b0 b1 b2 b3 = true) : runsL (gso (inBox b0 b1 b2 b3) 256) = boxRuns b0 b1 b2 b3 b3.toNat := by
  have h := (boxOk_iff b0 b1 b2 b3).1 h
  have cell : ∀ y x, y < 16 → x < 16 → gso (inBox b0 b1 b2 b3) 256 (y * 16 + x) = inBox b0 b1 b2 b3 x y := by
    intro y x hy hx
    unfold gso
    rw [show (y * 16 + x) % 16 = x by omega, show (y * 16 + x) / 16 = y by omega, decide_eq_true (by omega), Bool.true_and]
  have key : ∀ n : Nat, n ≤ 16 → runsTo (gso (inBox b0 b1 b2 b3) 256) n = boxRuns b0 b1 b2 b3 (min (n : Int) (b1 + b3) - b1).toNat := by
    intro n
    induction n with
    | zero => intro _; rw [show (min ((0 : Nat) : Int) (b1 + b3) - b1).toNat = 0 by omega]; simp [runsTo, boxRuns]
    | succ n ih =>
      intro hn
      rw [runsTo_succ, ih (by omega)]
      by_cases c1 : (n : Int) < b1
      · rw [scan_none _ n (fun x hx => by rw [cell n x (by omega) hx]; unfold inBox; rw [decide_eq_false (show ¬ b1 ≤ (n : Int) by omega), Bool.and_false, Bool.false_and]), List.append_nil]
        congr 1; omega
      · by_cases c2 : (n : Int) < b1 + b3
        · rw [scan_seg _ n b0.toNat (b0 + b2).toNat (by omega) (by omega) (fun x hx => by
            rw [cell n x (by omega) hx]; unfold inBox
            rw [decide_eq_true (show b1 ≤ (n : Int) by omega), decide_eq_true c2, Bool.and_true, Bool.and_true]
            congr 1
            · rw [decide_eq_decide]; omega
            · rw [decide_eq_decide]; omega)]
          rw [show (min ((n + 1 : Nat) : Int) (b1 + b3) - b1).toNat = (min (n : Int) (b1 + b3) - b1).toNat + 1 by omega, boxRuns_succ]
          congr 2
          rw [show b1 + (((min (n : Int) (b1 + b3) - b1).toNat : Nat) : Int) = (n : Int) by omega, show ((b0.toNat : Nat) : Int) = b0 by omega, show (((b0 + b2).toNat : Nat) : Int) = b0 + b2 by omega]
        · rw [scan_none _ n (fun x hx => by rw [cell n x (by omega) hx]; unfold inBox; rw [decide_eq_false c2, Bool.and_false]), List.append_nil]
          congr 1; omega
  have := key 16 (Nat.le_refl _)
  unfold runsL
  rw [this]
  congr 1; omega
/-- what both answer -/
def boxV (b0 b1 b2 b3 : Int) : List Run × Bool := if boxOk b0 b1 b2 b3 = true then (boxRuns b0 b1 b2 b3 b3.toNat, true) else ([], false)
theorem impl_BoxRegion_eq (b0 b1 b2 b3 : Int) : impl_BoxRegion.f b0 b1 b2 b3 = some (boxV b0 b1 b2 b3) := by
  unfold impl_BoxRegion.f boxV
  by_cases h : boxOk b0 b1 b2 b3 = true
  · rw [if_pos h, if_pos h, runs_box b0 b1 b2 b3 h]
  · rw [if_neg h, if_neg h]
end Go.Proofs.Ytnofkbbcbpjhfaa.Pure

/- Two regions combined, as the program and the reference have it. -/
namespace Go.Proofs.Ytnofkbbcbpjhfaa.Pure
open Go.RowKit Go.Proofs.Ytnofkbbcbpjhfaa.Q Go.Proofs.YtnofkbbcbpjhfaaW.PrintWords Go.Proofs.YtnofkbbcbpjhfaaW.PrintLast Go.Proofs.YtnofkbbcbpjhfaaW.PrintMore
set_option linter.unusedVariables false
set_option linter.unusedSimpArgs false

def combV (l m : List Run) (k : Int) : List Run × Bool :=
  if (validR l && validR m && decide (0 ≤ k ∧ k ≤ 3)) = true then (runsL (gso (combG k (gridF l) (gridF m)) 256), true) else ([], false)
theorem impl_CombineRegions_eq (l m : List Run) (k : Int) : impl_CombineRegions.f l m k = some (combV l m k) := rfl
theorem comb_at (k : Int) (g h : Nat → Bool) (p : Nat) (hp : p < 256) : gso (combG k g h) 256 p = combB k (g p) (h p) := by
  rw [gso_at _ _ hp]; unfold combG; rw [show p / 16 * 16 + p % 16 = p by omega]
end Go.Proofs.Ytnofkbbcbpjhfaa.Pure

/- Areas and bounds of regions, as the program and the reference have them. -/
namespace Go.Proofs.Ytnofkbbcbpjhfaa.Pure
open Go.RowKit Go.Proofs.Ytnofkbbcbpjhfaa.Q Go.Proofs.YtnofkbbcbpjhfaaW.PrintWords Go.Proofs.YtnofkbbcbpjhfaaW.PrintLast Go.Proofs.YtnofkbbcbpjhfaaW.PrintMore
set_option linter.unusedVariables false
set_option linter.unusedSimpArgs false

def areaR (l : List Run) : Int := (l.map fun r => r.f2 - r.f1).sum
theorem areaR_drop (l : List Run) (i : Nat) (h : i < l.length) : areaR (l.drop i) = (l[i].f2 - l[i].f1) + areaR (l.drop (i + 1)) := by
  rw [List.drop_eq_getElem_cons h]; unfold areaR; rw [List.map_cons, List.sum_cons]
theorem impl_AreaOf_eq (l : List Run) (hl : l.length ≤ 1000000000) (k : Nat) (hk : 2 * l.length + 1 < k) : impl_AreaOf.f k l = some (if validR l = true then areaR l else -1) := by
  unfold impl_AreaOf.f
  rw [impl_isRegion_eq l (by omega) k (by omega)]
  simp only [Option.bind_some]
  by_cases hv : validR l = true
  · rw [if_pos hv, if_pos hv]
    have hok := valid_ok hv
    have h := loop_up 0 l.length (fun k i s => impl_AreaOf.l0 k s l (l.length : Int) (i : Int)) (fun i s => 0 ≤ s ∧ s ≤ 16 * (i : Int)) (fun i s => s + areaR (l.drop i))
      (by
        intro i s k hi hs _
        have ho := (runOK_iff _).1 (hok l[i] (List.getElem_mem hi))
        refine .inr ⟨s + (l[i].f2 - l[i].f1), ?_, by constructor <;> omega, by rw [areaR_drop l i hi]; omega⟩
        simp only [impl_AreaOf.l0]
        rw [if_pos (by omega), if_pos (by omega), if_pos (by omega), rdRun l i hi, w64n i (by omega), w64 (x := l[i].f2 - l[i].f1) (by omega) (by omega), w64 (by omega) (by omega)])
      (by
        intro s k hs _
        simp only [impl_AreaOf.l0]
        rw [if_neg (by omega), List.drop_length]; simp [areaR])
      l.length 0 0 k (by omega) (by omega) (by omega)
    simpa using h
  · rw [if_neg hv, if_neg hv]
end Go.Proofs.Ytnofkbbcbpjhfaa.Pure

/- The runs of a grid are a region: their grid is the grid, and their area is the number of its pixels. -/
namespace Go.Proofs.Ytnofkbbcbpjhfaa.Pure
open Go.RowKit Go.Proofs.Ytnofkbbcbpjhfaa.Q Go.Proofs.YtnofkbbcbpjhfaaW.PrintWords Go.Proofs.YtnofkbbcbpjhfaaW.PrintLast Go.Proofs.YtnofkbbcbpjhfaaW.PrintMore
set_option linter.unusedVariables false
set_option linter.unusedSimpArgs false

theorem endAt_le (g : Nat → Bool) (y : Nat) : ∀ n x, x ≤ 16 → endAt g y n x ≤ 16 := by
  intro n
  induction n with
  | zero => intro x h; exact h
  | succ n ih =>
    intro x h
    unfold endAt
    split
    · rename_i c; exact ih (x + 1) (by omega)
    · exact h
theorem endAt_in (g : Nat → Bool) (y : Nat) : ∀ n x q, x ≤ q → q < endAt g y n x → g (y * 16 + q) = true := by
  intro n
  induction n with
  | zero => intro x q h1 h2; exact absurd h2 (by simp only [endAt]; omega)
  | succ n ih =>
    intro x q h1 h2
    unfold endAt at h2
    split at h2
    · rename_i c
      by_cases e : q = x
      · subst e; exact c.2
      · exact ih (x + 1) q (by omega) h2
    · omega
theorem endAt_end (g : Nat → Bool) (y : Nat) : ∀ n x, 16 ≤ n + x → x ≤ 16 → endAt g y n x = 16 ∨ g (y * 16 + endAt g y n x) = false := by
  intro n
  induction n with
  | zero => intro x h1 h2; left; simp only [endAt]; omega
  | succ n ih =>
    intro x h1 h2
    unfold endAt
    split
    · rename_i c; exact ih (x + 1) (by omega) (by omega)
    · rename_i c
      by_cases hx : x < 16
      · right
        cases hv : g (y * 16 + x) with
        | true => exact absurd ⟨hx, hv⟩ c
        | false => rfl
      · left; omega
theorem runIn_row (y p : Nat) (a b : Nat) : runIn ⟨(y : Int), (a : Int), (b : Int)⟩ p = (decide (p / 16 = y) && (decide (a ≤ p % 16) && decide (p % 16 < b))) := by
  unfold runIn
  rw [Bool.and_assoc]
  congr 1
  · rw [decide_eq_decide]; simp only; omega
  · congr 1
    · rw [decide_eq_decide]; simp only; omega
    · rw [decide_eq_decide]; simp only; omega
theorem gridF_nil (p : Nat) : gridF [] p = false := rfl
theorem gridF_cons (r : Run) (l : List Run) (p : Nat) : gridF (r :: l) p = (runIn r p || gridF l p) := rfl
theorem gridF_append (l m : List Run) (p : Nat) : gridF (l ++ m) p = (gridF l p || gridF m p) := by unfold gridF; rw [List.any_append]
theorem grid_scan (g : Nat → Bool) (y p : Nat) (hp : p < 256) : ∀ d x, 17 ≤ x + d → gridF (scanRow g y x) p = (decide (p / 16 = y) && (decide (x ≤ p % 16) && g p)) := by
  intro d
  induction d with
  | zero =>
    intro x hx
    rw [scan_end g y x (by omega), gridF_nil, decide_eq_false (show ¬ x ≤ p % 16 by omega), Bool.false_and, Bool.and_false]
  | succ d ih =>
    intro x hx
    by_cases h16 : x < 16
    · by_cases hy : p / 16 = y
      · have hpe : p = y * 16 + p % 16 := by omega
        cases hv : g (y * 16 + x) with
        | true =>
          have he := endAt_ge g y (16 - x) x
          have he2 := endAt_le g y (16 - x) x (by omega)
          have hin := endAt_in g y (16 - x) x
          have hend := endAt_end g y (16 - x) x (by omega) (by omega)
          have hst := endAt_step g y x h16 hv
          have he3 := endAt_ge g y (16 - (x + 1)) (x + 1)
          rw [← hst] at he3
          rw [scan_true g y x h16 hv, gridF_cons, runIn_row, ih _ (by omega)]
          generalize endAt g y (16 - x) x = e at *
          rw [decide_eq_true hy, Bool.true_and, Bool.true_and, Bool.true_and]
          by_cases c1 : x ≤ p % 16
          · rw [decide_eq_true c1, Bool.true_and, Bool.true_and]
            by_cases c2 : p % 16 < e
            · rw [decide_eq_true c2, Bool.true_or, hpe, hin (p % 16) c1 c2]
            · rw [decide_eq_false c2, Bool.false_or]
              by_cases c3 : e + 1 ≤ p % 16
              · rw [decide_eq_true c3, Bool.true_and]
              · rw [decide_eq_false c3, Bool.false_and]
                rcases hend with h | h
                · omega
                · rw [show p % 16 = e by omega] at hpe
                  rw [hpe, h]
          · rw [decide_eq_false c1, Bool.false_and, Bool.false_and, Bool.false_or, decide_eq_false (show ¬ e + 1 ≤ p % 16 by omega), Bool.false_and]
        | false =>
          rw [scan_false g y x h16 hv, ih _ (by omega), decide_eq_true hy, Bool.true_and, Bool.true_and]
          by_cases c : x = p % 16
          · rw [decide_eq_false (show ¬ x + 1 ≤ p % 16 by omega), Bool.false_and, decide_eq_true (show x ≤ p % 16 by omega), Bool.true_and, hpe, ← c, hv]
          · congr 1
            rw [decide_eq_decide]; omega
      · have hall : ∀ d x, 17 ≤ x + d → gridF (scanRow g y x) p = false := by
          intro d
          induction d with
          | zero => intro x hx; rw [scan_end g y x (by omega)]; rfl
          | succ d ih =>
            intro x hx
            by_cases h16 : x < 16
            · cases hv : g (y * 16 + x) with
              | true =>
                have := endAt_ge g y (16 - x) x
                rw [scan_true g y x h16 hv, gridF_cons, runIn_row, decide_eq_false hy, Bool.false_and, Bool.false_or]
                exact ih _ (by omega)
              | false => rw [scan_false g y x h16 hv]; exact ih _ (by omega)
            · rw [scan_end g y x (by omega)]; rfl
        rw [hall 17 x (by omega), decide_eq_false hy, Bool.false_and]
    · rw [scan_end g y x (by omega), gridF_nil, decide_eq_false (show ¬ x ≤ p % 16 by omega), Bool.false_and, Bool.and_false]
theorem grid_runsTo (g : Nat → Bool) (p : Nat) (hp : p < 256) (n : Nat) : gridF (runsTo g n) p = (decide (p / 16 < n) && g p) := by
  induction n with
  | zero => simp [runsTo, gridF]
  | succ n ih =>
    rw [runsTo_succ, gridF_append, ih, grid_scan g n p hp 17 0 (by omega), decide_eq_true (Nat.zero_le _), Bool.true_and]
    by_cases c : p / 16 = n
    · rw [decide_eq_true c, decide_eq_false (show ¬ p / 16 < n by omega), decide_eq_true (show p / 16 < n + 1 by omega), Bool.false_and, Bool.false_or]
    · rw [decide_eq_false c, Bool.false_and, Bool.or_false]
      congr 1
      rw [decide_eq_decide]; omega
/-- The grid of a grid's runs is the grid. -/
theorem grid_runs (g : Nat → Bool) (p : Nat) (hp : p < 256) : gridF (runsL g) p = g p := by
  unfold runsL
  rw [grid_runsTo g p hp, decide_eq_true (show p / 16 < 16 by omega), Bool.true_and]
/-! the runs are valid -/
def rowsFrom (g : Nat → Bool) (y n : Nat) : List Run := (List.range' y n).flatMap fun y => scanRow g y 0
theorem rowsFrom_succ (g : Nat → Bool) (y n : Nat) : rowsFrom g y (n + 1) = scanRow g y 0 ++ rowsFrom g (y + 1) n := by
  simp [rowsFrom, List.range'_succ]
theorem runsL_rows (g : Nat → Bool) : runsL g = rowsFrom g 0 16 := by
  unfold runsL runsTo rowsFrom
  rw [List.range_eq_range']
/-- the run before, if there is one, lies ahead of column x of row y -/
def ahead (y x : Nat) (p : Option Run) : Prop := ∀ r, p = some r → r.f0 < (y : Int) ∨ (r.f0 = (y : Int) ∧ r.f2 < (x : Int))
theorem scan_valid (g : Nat → Bool) (y : Nat) (hy : y < 16) (rest : List Run) (hrest : ∀ p, (∀ r, p = some r → r.f0 ≤ (y : Int)) → validFrom p rest = true) :
    ∀ d x p, 17 ≤ x + d → (ahead y x p ∨ (x = 0 ∧ ∀ r, p = some r → r.f0 < (y : Int))) → validFrom p (scanRow g y x ++ rest) = true := by
  intro d
  induction d with
  | zero =>
    intro x p hx hp
    rw [scan_end g y x (by omega), List.nil_append]
    refine hrest p (fun r hr => ?_)
    rcases hp with hp | hp
    · have := hp r hr; omega
    · have := hp.2 r hr; omega
  | succ d ih =>
    intro x p hx hp
    by_cases h16 : x < 16
    · cases hv : g (y * 16 + x) with
      | true =>
        have he2 := endAt_le g y (16 - x) x (by omega)
        have hst := endAt_step g y x h16 hv
        have he3 := endAt_ge g y (16 - (x + 1)) (x + 1)
        rw [← hst] at he3
        rw [scan_true g y x h16 hv, List.cons_append]
        generalize endAt g y (16 - x) x = e at *
        have hok : runOK ⟨(y : Int), (x : Int), (e : Int)⟩ = true := by rw [runOK_iff]; simp only; omega
        have hnext : validFrom (some ⟨(y : Int), (x : Int), (e : Int)⟩) (scanRow g y (e + 1) ++ rest) = true := by
          refine ih (e + 1) _ (by omega) (.inl (fun r hr => ?_))
          injection hr with hr
          subst hr
          right
          simp only
          exact ⟨trivial, by omega⟩
        cases p with
        | none => simp only [validFrom, hok, hnext, Bool.and_true]
        | some q =>
          have haft : runAfter q ⟨(y : Int), (x : Int), (e : Int)⟩ = true := by
            rw [runAfter_iff]
            simp only
            rcases hp with hp | hp
            · have := hp q rfl; omega
            · have := hp.2 q rfl; omega
          simp only [validFrom, hok, haft, hnext, Bool.and_true]
      | false =>
        rw [scan_false g y x h16 hv]
        refine ih (x + 1) p (by omega) (.inl (fun r hr => ?_))
        rcases hp with hp | hp
        · have := hp r hr; omega
        · have := hp.2 r hr; omega
    · rw [scan_end g y x (by omega), List.nil_append]
      refine hrest p (fun r hr => ?_)
      rcases hp with hp | hp
      · have := hp r hr; omega
      · have := hp.2 r hr; omega
theorem rows_valid (g : Nat → Bool) : ∀ n y : Nat, y + n ≤ 16 → ∀ p : Option Run, (∀ r, p = some r → r.f0 < (y : Int)) → validFrom p (rowsFrom g y n) = true := by
  intro n
  induction n with
  | zero =>
    intro y _ p _
    cases p <;> rfl
  | succ n ih =>
    intro y hy p hp
    rw [rowsFrom_succ]
    exact scan_valid g y (by omega) _ (fun p' hp' => ih (y + 1) (by omega) p' (fun r hr => by have := hp' r hr; omega)) 17 0 p (by omega) (.inr ⟨rfl, hp⟩)
/-- The runs of a grid are a region. -/
theorem runs_valid (g : Nat → Bool) : validR (runsL g) = true := by
  rw [runsL_rows]
  exact rows_valid g 16 0 (by omega) none (fun r hr => by cases hr)
/-! their area -/
def countG (g : Nat → Bool) : Nat := (List.range 256).countP g
theorem areaR_append (l m : List Run) : areaR (l ++ m) = areaR l + areaR m := by unfold areaR; rw [List.map_append, List.sum_append]
theorem areaR_cons (r : Run) (l : List Run) : areaR (r :: l) = (r.f2 - r.f1) + areaR l := by unfold areaR; rw [List.map_cons, List.sum_cons]
def cntRow (g : Nat → Bool) (y x n : Nat) : Nat := (List.range' (y * 16 + x) n).countP g
theorem cntRow_succ (g : Nat → Bool) (y x n : Nat) : cntRow g y x (n + 1) = (if g (y * 16 + x) = true then 1 else 0) + cntRow g y (x + 1) n := by
  unfold cntRow
  rw [List.range'_succ, List.countP_cons, Nat.add_comm, Nat.add_assoc]
theorem cnt_seg (g : Nat → Bool) (y : Nat) : ∀ k x e, x + k = e → e ≤ 16 → (∀ q, x ≤ q → q < e → g (y * 16 + q) = true) → cntRow g y x (16 - x) = k + cntRow g y e (16 - e) := by
  intro k
  induction k with
  | zero => intro x e h1 h2 _; rw [show e = x by omega]; omega
  | succ k ih =>
    intro x e h1 h2 h
    rw [show 16 - x = (16 - (x + 1)) + 1 by omega, cntRow_succ, if_pos (h x (by omega) (by omega)), ih (x + 1) e (by omega) h2 (fun q hq1 hq2 => h q (by omega) hq2)]
    omega
theorem area_scan (g : Nat → Bool) (y : Nat) : ∀ d x, 17 ≤ x + d → areaR (scanRow g y x) = ((cntRow g y x (16 - x) : Nat) : Int) := by
  intro d
  induction d with
  | zero => intro x hx; rw [scan_end g y x (by omega), show 16 - x = 0 by omega]; rfl
  | succ d ih =>
    intro x hx
    by_cases h16 : x < 16
    · cases hv : g (y * 16 + x) with
      | true =>
        have he2 := endAt_le g y (16 - x) x (by omega)
        have hin := endAt_in g y (16 - x) x
        have hend := endAt_end g y (16 - x) x (by omega) (by omega)
        have hst := endAt_step g y x h16 hv
        have he3 := endAt_ge g y (16 - (x + 1)) (x + 1)
        rw [← hst] at he3
        rw [scan_true g y x h16 hv, areaR_cons]
        generalize endAt g y (16 - x) x = e at *
        rw [ih (e + 1) (by omega), cnt_seg g y (e - x) x e (by omega) he2 hin]
        have hz : cntRow g y e (16 - e) = cntRow g y (e + 1) (16 - (e + 1)) := by
          by_cases c : e = 16
          · subst c; rfl
          · rcases hend with h | h
            · omega
            · rw [show 16 - e = (16 - (e + 1)) + 1 by omega, cntRow_succ, if_neg (by rw [h]; simp)]
              omega
        rw [hz]
        simp only
        omega
      | false =>
        rw [scan_false g y x h16 hv, ih _ (by omega), show 16 - x = (16 - (x + 1)) + 1 by omega, cntRow_succ, if_neg (by rw [hv]; simp)]
        omega
    · rw [scan_end g y x (by omega), show 16 - x = 0 by omega]; rfl
theorem area_runsTo (g : Nat → Bool) (n : Nat) : areaR (runsTo g n) = (((List.range (n * 16)).countP g : Nat) : Int) := by
  induction n with
  | zero => simp [runsTo, areaR]
  | succ n ih =>
    rw [runsTo_succ, areaR_append, ih, area_scan g n 17 0 (by omega)]
    have e : List.range ((n + 1) * 16) = List.range (n * 16) ++ List.range' (n * 16) 16 := by
      rw [Nat.succ_mul, List.range_eq_range', List.range_eq_range', ← List.range'_append_1]; simp
    rw [e, List.countP_append]
    unfold cntRow
    simp only [Nat.add_zero, Nat.sub_zero]
    omega
/-- The area of a grid's runs is the number of its pixels. -/
theorem area_runs (g : Nat → Bool) : areaR (runsL g) = (countG g : Int) := area_runsTo g 16
theorem countG_congr {g g' : Nat → Bool} (h : ∀ p, p < 256 → g p = g' p) : countG g = countG g' := by
  unfold countG
  exact List.countP_congr (fun p hp => by rw [h p (by simpa using hp)])
theorem countG_sub (g h : Nat → Bool) (hs : ∀ p, p < 256 → h p = true → g p = true) : countG (fun p => g p && !(h p)) + countG h = countG g := by
  unfold countG
  have key : ∀ l : List Nat, (∀ p ∈ l, h p = true → g p = true) → l.countP (fun p => g p && !(h p)) + l.countP h = l.countP g := by
    intro l
    induction l with
    | nil => intro _; rfl
    | cons a l ih =>
      intro hl
      have h1 := ih (fun p hp => hl p (by simp [hp]))
      have h2 := hl a (by simp)
      rw [List.countP_cons, List.countP_cons, List.countP_cons]
      cases hg : g a <;> cases hh : h a <;> simp_all <;> omega
  exact key _ (fun p hp => hs p (by simpa using hp))
theorem countG_none (g : Nat → Bool) (h : ∀ p, p < 256 → g p = false) : countG g = 0 := by
  unfold countG
  rw [List.countP_eq_zero]
  intro p hp
  rw [h p (by simpa using hp)]; simp
end Go.Proofs.Ytnofkbbcbpjhfaa.Pure

/- Tiles as regions: they are apart, and cover the image. -/
namespace Go.Proofs.Ytnofkbbcbpjhfaa.Pure
open Go.RowKit Go.Proofs.Ytnofkbbcbpjhfaa.Q Go.Proofs.YtnofkbbcbpjhfaaW.PrintWords Go.Proofs.YtnofkbbcbpjhfaaW.PrintLast Go.Proofs.YtnofkbbcbpjhfaaW.PrintMore
set_option linter.unusedVariables false
set_option linter.unusedSimpArgs false

theorem boxArea (b0 b1 b2 b3 : Int) (n : Nat) : areaR (boxRuns b0 b1 b2 b3 n) = b2 * (n : Int) := by
  induction n with
  | zero => simp [areaR, boxRuns]
  | succ n ih =>
    rw [boxRuns_succ]
    have : areaR (boxRuns b0 b1 b2 b3 n ++ [⟨b1 + (n : Int), b0, b0 + b2⟩]) = areaR (boxRuns b0 b1 b2 b3 n) + b2 := by
      unfold areaR
      rw [List.map_append, List.sum_append]
      simp; omega
    rw [this, ih]
    have : ((n + 1 : Nat) : Int) = (n : Int) + 1 := by omega
    rw [this, Int.mul_add]; omega
/-- the pixels of the first t tiles -/
def gtT (w h t : Nat) (p : Nat) : Bool := decide (p % 16 < w ∧ p / 16 < h ∧ p / 16 / 4 * colsOf w + p % 16 / 4 < t)
theorem tile_idx (w a b t : Nat) (hb : b < colsOf w) : (a * colsOf w + b = t) ↔ (b = t % colsOf w ∧ a = t / colsOf w) := by
  constructor
  · rintro rfl
    have e1 : (a * colsOf w + b) % colsOf w = b := by rw [Nat.mul_comm, Nat.mul_add_mod, Nat.mod_eq_of_lt hb]
    have e2 : (a * colsOf w + b) / colsOf w = a := by rw [Nat.mul_comm, Nat.mul_add_div (by omega), Nat.div_eq_of_lt hb, Nat.add_zero]
    exact ⟨e1.symm, e2.symm⟩
  · rintro ⟨rfl, rfl⟩
    rw [Nat.mul_comm]
    exact Nat.div_add_mod t (colsOf w)
theorem tile_ok (w h t : Nat) (h1 : 1 ≤ w) (h2 : w ≤ 16) (h3 : 1 ≤ h) (h4 : h ≤ 16) (ht : t < colsOf w * colsOf h) : t % colsOf w * 4 < w ∧ t / colsOf w * 4 < h := by
  have hc := cols_bounds w h1 h2
  have hm : t % colsOf w < colsOf w := Nat.mod_lt _ (by omega)
  have hd : t / colsOf w < colsOf h := Nat.div_lt_of_lt_mul ht
  unfold colsOf at hm hd ⊢
  omega
theorem tile_box (w h t : Nat) (h1 : 1 ≤ w) (h2 : w ≤ 16) (h3 : 1 ≤ h) (h4 : h ≤ 16) (ht : t < colsOf w * colsOf h) : boxOk (tileN w h t).f0 (tileN w h t).f1 (tileN w h t).f2 (tileN w h t).f3 = true ∧ (tileN w h t).f2 ≤ 4 ∧ (tileN w h t).f3 ≤ 4 := by
  have hk := tile_ok w h t h1 h2 h3 h4 ht
  rw [boxOk_iff]
  unfold tileN
  simp only [mn_def]
  generalize t % colsOf w = a at *
  generalize t / colsOf w = b at *
  omega
theorem tile_pix (w h t p : Nat) (h1 : 1 ≤ w) (h2 : w ≤ 16) (h3 : 1 ≤ h) (h4 : h ≤ 16) (ht : t < colsOf w * colsOf h) (hp : p < 256) :
    gso (inBox (tileN w h t).f0 (tileN w h t).f1 (tileN w h t).f2 (tileN w h t).f3) 256 p = decide (p % 16 < w ∧ p / 16 < h ∧ p / 16 / 4 * colsOf w + p % 16 / 4 = t) := by
  have hk := tile_ok w h t h1 h2 h3 h4 ht
  rw [gso_at _ _ hp, Bool.eq_iff_iff]
  have hcol : p % 16 < w → p % 16 / 4 < colsOf w := by unfold colsOf; omega
  have hin : inBox (tileN w h t).f0 (tileN w h t).f1 (tileN w h t).f2 (tileN w h t).f3 (p % 16) (p / 16) = true ↔ p % 16 < w ∧ p / 16 < h ∧ p % 16 / 4 = t % colsOf w ∧ p / 16 / 4 = t / colsOf w := by
    unfold inBox tileN
    simp only [mn_def, Bool.and_eq_true, decide_eq_true_eq]
    generalize t % colsOf w = a at *
    generalize t / colsOf w = b at *
    omega
  rw [hin, decide_eq_true_eq]
  constructor
  · rintro ⟨a, b, c, d⟩
    exact ⟨a, b, (tile_idx w _ _ t (hcol a)).2 ⟨c, d⟩⟩
  · rintro ⟨a, b, c⟩
    have := (tile_idx w _ _ t (hcol a)).1 c
    exact ⟨a, b, this.1, this.2⟩
def boxT (w h t : Nat) : Nat → Bool := gso (inBox (tileN w h t).f0 (tileN w h t).f1 (tileN w h t).f2 (tileN w h t).f3) 256
theorem gt_succ (w h t p : Nat) (h1 : 1 ≤ w) (h2 : w ≤ 16) (h3 : 1 ≤ h) (h4 : h ≤ 16) (ht : t < colsOf w * colsOf h) (hp : p < 256) : gtT w h (t + 1) p = (gtT w h t p || boxT w h t p) := by
  unfold boxT
  rw [tile_pix w h t p h1 h2 h3 h4 ht hp]
  unfold gtT
  rw [Bool.eq_iff_iff]
  simp only [Bool.or_eq_true, decide_eq_true_eq]
  generalize p / 16 / 4 * colsOf w = a
  omega
theorem gt_apart (w h t p : Nat) (h1 : 1 ≤ w) (h2 : w ≤ 16) (h3 : 1 ≤ h) (h4 : h ≤ 16) (ht : t < colsOf w * colsOf h) (hp : p < 256) : (gtT w h (t + 1) p && !(boxT w h t p)) = gtT w h t p := by
  unfold boxT
  rw [tile_pix w h t p h1 h2 h3 h4 ht hp]
  unfold gtT
  rw [Bool.eq_iff_iff]
  simp only [Bool.and_eq_true, Bool.not_eq_true', decide_eq_true_eq, decide_eq_false_iff_not]
  generalize p / 16 / 4 * colsOf w = a
  omega
theorem count_succ (w h t : Nat) (h1 : 1 ≤ w) (h2 : w ≤ 16) (h3 : 1 ≤ h) (h4 : h ≤ 16) (ht : t < colsOf w * colsOf h) : countG (gtT w h t) + countG (boxT w h t) = countG (gtT w h (t + 1)) := by
  rw [← countG_sub (gtT w h (t + 1)) (boxT w h t) (fun p hp hb => by rw [gt_succ w h t p h1 h2 h3 h4 ht hp, hb, Bool.or_true])]
  rw [countG_congr (fun p hp => gt_apart w h t p h1 h2 h3 h4 ht hp)]
theorem gt_all (w h p : Nat) (h1 : 1 ≤ w) (h2 : w ≤ 16) (h3 : 1 ≤ h) (h4 : h ≤ 16) (hp : p < 256) : gtT w h (colsOf w * colsOf h) p = gso (inBox 0 0 w h) 256 p := by
  rw [gso_at _ _ hp]
  unfold gtT inBox
  rw [Bool.eq_iff_iff]
  simp only [Bool.and_eq_true, decide_eq_true_eq]
  constructor
  · rintro ⟨a, b, _⟩; omega
  · intro c
    refine ⟨by omega, by omega, ?_⟩
    have e1 : p % 16 / 4 < colsOf w := by unfold colsOf; omega
    have e2 : p / 16 / 4 + 1 ≤ colsOf h := by unfold colsOf; omega
    have e3 : (p / 16 / 4 + 1) * colsOf w ≤ colsOf h * colsOf w := Nat.mul_le_mul_right _ e2
    rw [Nat.mul_comm (colsOf h)] at e3
    rw [Nat.add_mul] at e3
    omega
theorem count_all (w h : Nat) (h1 : 1 ≤ w) (h2 : w ≤ 16) (h3 : 1 ≤ h) (h4 : h ≤ 16) : (countG (gtT w h (colsOf w * colsOf h)) : Int) = (w : Int) * (h : Int) := by
  rw [countG_congr (fun p hp => gt_all w h p h1 h2 h3 h4 hp), ← area_runs, runs_box 0 0 (w : Int) (h : Int) ((boxOk_iff _ _ _ _).2 (by omega)), boxArea, Int.toNat_natCast]
end Go.Proofs.Ytnofkbbcbpjhfaa.Pure

/- The reader of draws: whatever the code's bytes are, it answers, in range. -/
namespace Go.Proofs.Ytnofkbbcbpjhfaa.Pure
open Go.RowKit Go.Proofs.Ytnofkbbcbpjhfaa.Q Go.Proofs.YtnofkbbcbpjhfaaW.PrintWords Go.Proofs.YtnofkbbcbpjhfaaW.PrintLast Go.Proofs.YtnofkbbcbpjhfaaW.PrintMore
set_option linter.unusedVariables false
set_option linter.unusedSimpArgs false

/-- What a reader reads from: at most 2000 bytes. -/
def Bytes (b : List Int) : Prop := b.length ≤ 2000 ∧ ∀ x ∈ b, 0 ≤ x ∧ x ≤ 255
theorem Bytes.rd_ {b : List Int} (h : Bytes b) (i : Int) : 0 ≤ rd b i ∧ rd b i ≤ 255 := by
  unfold rd
  by_cases c : i.toNat < b.length
  · rw [List.getD_eq_getElem?_getD, List.getElem?_eq_getElem c]; exact h.2 _ (List.getElem_mem c)
  · rw [List.getD_eq_getElem?_getD, List.getElem?_eq_none (by omega)]; simp
theorem xor_nn (a b : Int) (ha : 0 ≤ a) (ha' : a < 4611686018427387904) (hb : 0 ≤ b) (hb' : b < 4611686018427387904) : 0 ≤ Go.bits .xor .i64 a b := by
  obtain ⟨a, rfl⟩ := Int.eq_ofNat_of_zero_le ha
  obtain ⟨b, rfl⟩ := Int.eq_ofNat_of_zero_le hb
  have ha2 : a < 2 ^ 62 := by have : (2 : Nat) ^ 62 = 4611686018427387904 := by decide +kernel
                              omega
  have hb2 : b < 2 ^ 62 := by have : (2 : Nat) ^ 62 = 4611686018427387904 := by decide +kernel
                              omega
  have e64 : IntKind.bits .i64 = 64 := rfl
  have hx := Nat.xor_lt_two_pow ha2 hb2
  have h62 : (2 : Nat) ^ 62 = 4611686018427387904 := by decide +kernel
  have h64 : (2 : Nat) ^ 64 = 18446744073709551616 := by decide +kernel
  simp only [Go.bits, BitVec.ofInt_natCast, BitVec.toNat_xor, BitVec.toNat_ofNat, e64]
  rw [Nat.mod_eq_of_lt (by omega), Nat.mod_eq_of_lt (by omega), IntKind.wrap_i64]
  generalize a ^^^ b = z at *
  omega
theorem tmod_range (x n : Int) (hx : 0 ≤ x) (hn : 1 ≤ n) : 0 ≤ Int.tmod x n ∧ Int.tmod x n < n := by
  rw [tmod_nn _ _ hx]
  exact ⟨Int.emod_nonneg _ (by omega), Int.emod_lt_of_pos _ (by omega)⟩
theorem pick_at (b : List Int) (p n : Int) (hb : Bytes b) (hp0 : 0 ≤ p) (hp : p ≤ 1000000000000) :
    ∃ v, (∀ k, 0 < k → spec_reader_pick.f k b p n = some (v, p + 1)) ∧ 0 ≤ v ∧ (1 ≤ n → v < n) ∧ (n < 1 → v = 0) := by
  by_cases hn : n < 1
  · refine ⟨0, fun k hk => ?_, by omega, by omega, fun _ => rfl⟩
    obtain ⟨k, rfl⟩ : ∃ m, k = m + 1 := ⟨k - 1, by omega⟩
    unfold spec_reader_pick.f
    rw [if_pos hn, w64 (by omega) (by omega)]
    simp only [spec_reader_pick.j0, if_true]
  by_cases he : b.length = 0
  · refine ⟨0, fun k hk => ?_, by omega, by omega, fun _ => rfl⟩
    obtain ⟨k, rfl⟩ : ∃ m, k = m + 1 := ⟨k - 1, by omega⟩
    unfold spec_reader_pick.f
    rw [if_neg hn, w64 (by omega) (by omega)]
    simp only [spec_reader_pick.j0, he]; simp
  have hlen := hb.1
  by_cases hlt : p < (b.length : Int)
  · have hr := hb.rd_ p
    have ht := tmod_range (rd b p) n hr.1 (by omega)
    refine ⟨Int.tmod (rd b p) n, fun k hk => ?_, ht.1, fun _ => ht.2, by omega⟩
    obtain ⟨k, rfl⟩ : ∃ m, k = m + 1 := ⟨k - 1, by omega⟩
    unfold spec_reader_pick.f
    rw [if_neg hn, w64 (x := p + 1) (by omega) (by omega)]
    simp only [spec_reader_pick.j0]
    rw [if_neg (by simp only [beq_iff_eq]; omega), w64 (x := p + 1 - 1) (by omega) (by omega), show p + 1 - 1 = p by omega, if_pos hlt, if_pos hp0, if_neg (by omega), w64 (x := rd b p) (by omega) (by omega)]
  · have h1 := tmod_range p (b.length : Int) hp0 (by omega)
    have h2 := tmod_range (p * 7 + 3) (b.length : Int) (by omega) (by omega)
    have r1 := hb.rd_ (Int.tmod p (b.length : Int))
    have r2 := hb.rd_ (Int.tmod (p * 7 + 3) (b.length : Int))
    have hd : 0 ≤ Int.tdiv p (b.length : Int) ∧ Int.tdiv p (b.length : Int) ≤ p := by
      rw [tdiv_nn _ _ hp0]
      exact ⟨Int.ediv_nonneg hp0 (by omega), Int.ediv_le_self _ hp0⟩
    generalize h1e : Int.tmod p (b.length : Int) = t1 at *
    generalize h2e : Int.tmod (p * 7 + 3) (b.length : Int) = t2 at *
    generalize hde : Int.tdiv p (b.length : Int) = d at *
    generalize hr1e : rd b t1 = x1 at *
    generalize hr2e : rd b t2 = x2 at *
    have hx := xor_nn (x1 * 131 + x2 * 1117 + p * 29 + d * 53) ((x1 * 131 + x2 * 1117 + p * 29 + d * 53) / 64) (by omega) (by omega) (by omega) (by omega)
    have ht := tmod_range _ n hx (by omega)
    refine ⟨Int.tmod (Go.bits .xor .i64 (x1 * 131 + x2 * 1117 + p * 29 + d * 53) ((x1 * 131 + x2 * 1117 + p * 29 + d * 53) / 64)) n, fun k hk => ?_, ht.1, fun _ => ht.2, by omega⟩
    obtain ⟨k, rfl⟩ : ∃ m, k = m + 1 := ⟨k - 1, by omega⟩
    unfold spec_reader_pick.f
    rw [if_neg hn, w64 (x := p + 1) (by omega) (by omega)]
    simp only [spec_reader_pick.j0]
    rw [if_neg (by simp only [beq_iff_eq]; omega), w64 (x := p + 1 - 1) (by omega) (by omega), show p + 1 - 1 = p by omega, if_neg hlt, if_neg (by omega),
      w64 (x := p * 7) (by omega) (by omega), w64 (x := p * 7 + 3) (by omega) (by omega), h1e, h2e, hde, hr1e, hr2e, if_pos (by omega), if_pos (by omega), if_pos (by omega), if_pos (by omega), if_neg (by omega),
      w64 (x := x1) (by omega) (by omega), w64 (x := x2) (by omega) (by omega), w64 (x := d) (by omega) (by omega), w64 (x := x1 * 131) (by omega) (by omega), w64 (x := x2 * 1117) (by omega) (by omega), w64 (x := p * 29) (by omega) (by omega), w64 (x := d * 53) (by omega) (by omega),
      w64 (x := x1 * 131 + x2 * 1117) (by omega) (by omega), w64 (x := x1 * 131 + x2 * 1117 + p * 29) (by omega) (by omega), w64 (x := x1 * 131 + x2 * 1117 + p * 29 + d * 53) (by omega) (by omega), tdiv_nn _ 64 (by omega),
      w64 (x := (x1 * 131 + x2 * 1117 + p * 29 + d * 53) / 64) (by omega) (by omega)]
theorem one_at (b : List Int) (p : Int) (l : List Int) (hl : 0 < l.length) (hl' : l.length ≤ 1000) (hb : Bytes b) (hp0 : 0 ≤ p) (hp : p ≤ 1000000000000) :
    ∃ v, (∀ k, 0 < k → spec_reader_one.f k b p l = some (v, p + 1)) ∧ v ∈ l := by
  obtain ⟨v, hv, h0, h1, _⟩ := pick_at b p (l.length : Int) hb hp0 hp
  have h1' := h1 (by omega)
  obtain ⟨v, rfl⟩ := Int.eq_ofNat_of_zero_le h0
  refine ⟨l[v]'(by omega), fun k hk => ?_, List.getElem_mem _⟩
  unfold spec_reader_one.f
  rw [hv k hk]
  simp only [Option.bind_some]
  rw [if_pos (by omega), if_pos (by omega), rd_nat l v (by omega)]
theorem newReader_at (l : List Int) (h : ∀ x ∈ l, 0 ≤ x ∧ x ≤ 255) : ∃ b, spec_newReader.f l = some (b, 0) ∧ Bytes b := by
  unfold spec_newReader.f
  by_cases c : (l.length : Int) > 2000
  · rw [if_pos c, if_pos (by omega)]
    exact ⟨_, rfl, by rw [List.length_take]; omega, fun x hx => h x (List.mem_of_mem_take hx)⟩
  · rw [if_neg c]
    exact ⟨_, rfl, by omega, h⟩
/-- What a law is told of its code: bytes. -/
theorem code_bytes (l : List Int) (h : ∀ x ∈ l, (Lit.int .u8 x).wf = true) : ∀ x ∈ l, 0 ≤ x ∧ x ≤ 255 := by
  intro x hx
  have := h x hx
  simp only [Lit.wf, Bool.and_eq_true, decide_eq_true_eq] at this
  have e1 : IntKind.min .u8 = 0 := by decide
  have e2 : IntKind.max .u8 = 255 := by decide
  omega
end Go.Proofs.Ytnofkbbcbpjhfaa.Pure

/- Images that are drawn from bytes. -/
namespace Go.Proofs.Ytnofkbbcbpjhfaa.Pure
open Go.RowKit Go.Proofs.Ytnofkbbcbpjhfaa.Q Go.Proofs.YtnofkbbcbpjhfaaW.PrintWords Go.Proofs.YtnofkbbcbpjhfaaW.PrintLast Go.Proofs.YtnofkbbcbpjhfaaW.PrintMore
set_option linter.unusedVariables false
set_option linter.unusedSimpArgs false

theorem one_in (b : List Int) (p : Int) (l : List Int) (hl : 0 < l.length) (hl' : l.length ≤ 1000) (hb : Bytes b) (hp0 : 0 ≤ p) (hp : p ≤ 1000000000000) : ∃ v, Ev (fun k => spec_reader_one.f k b p l) (v, p + 1) ∧ v ∈ l := by
  obtain ⟨v, h, hv⟩ := one_at b p l hl hl' hb hp0 hp
  exact ⟨v, ev_of 0 h, hv⟩
theorem pick_in (b : List Int) (p n : Int) (hn : 1 ≤ n) (hb : Bytes b) (hp0 : 0 ≤ p) (hp : p ≤ 1000000000000) : ∃ v, Ev (fun k => spec_reader_pick.f k b p n) (v, p + 1) ∧ 0 ≤ v ∧ v < n := by
  obtain ⟨v, h, h0, h1, _⟩ := pick_at b p n hb hp0 hp
  exact ⟨v, ev_of 0 h, h0, h1 hn⟩
theorem newImage_eq (w h p : Int) (hs : 1 ≤ w ∧ w ≤ 16 ∧ 1 ≤ h ∧ h ≤ 16 ∧ 1 ≤ p ∧ p ≤ 4) : spec_newImage.f w h p = some (w, h, p, List.replicate (w * h * p).toNat 0) := by
  have := shape_prod hs
  unfold spec_newImage.f
  rw [shape_wrap hs, if_pos (by omega), if_pos (by omega)]
theorem randomLoop (b : List Int) (hb : Bytes b) (m : Int) (w h p : Int) : ∀ (n i : Nat) (x pos : Int) (d : List Int), i + n = d.length → 0 ≤ pos → pos + n ≤ 1000000000000 → d.length ≤ 1000000 →
    ∃ (d' : List Int) (q : Int), d'.length = d.length ∧ pos ≤ q ∧ q ≤ pos + n ∧ Ev (fun k => spec_randomImage.l0 k m x (i : Int) b pos w h p d) (w, h, p, d', q) := by
  intro n
  induction n with
  | zero =>
    intro i x pos d hi h0 h1 h2
    refine ⟨d, pos, rfl, by omega, by omega, ?_⟩
    refine Ev.step (f := fun _ => some (w, h, p, d, pos)) (fun k => ?_) (Ev.now _)
    simp only [spec_randomImage.l0]
    rw [if_neg (by omega)]
  | succ n ih =>
    intro i x pos d hi h0 h1 h2
    have go : ∀ (v x' pos' : Int), pos ≤ pos' → pos' ≤ pos + 1 → ∃ (d' : List Int) (q : Int), d'.length = d.length ∧ pos ≤ q ∧ q ≤ pos + ((n + 1 : Nat) : Int) ∧ Ev (fun k => spec_randomImage.l0 k m x' ((i + 1 : Nat) : Int) b pos' w h p (d.set i v)) (w, h, p, d', q) := by
      intro v x' pos' a1 a2
      obtain ⟨d', q, e1, e2, e3, e4⟩ := ih (i + 1) x' pos' (d.set i v) (by rw [List.length_set]; omega) (by omega) (by omega) (by rw [List.length_set]; omega)
      exact ⟨d', q, by rw [e1, List.length_set], by omega, by omega, e4⟩
    by_cases c0 : m = 0
    · obtain ⟨v, hv, _, _⟩ := pick_in b pos 256 (by omega) hb h0 (by omega)
      obtain ⟨d', q, e1, e2, e3, e4⟩ := go v v (pos + 1) (by omega) (by omega)
      refine ⟨d', q, e1, e2, e3, ?_⟩
      refine Ev.step (f := fun k => (spec_reader_pick.f k b pos 256).bind fun bt => if 0 ≤ (i : Int) then spec_randomImage.l0 k m bt.1 (wrap64 ((i : Int) + 1)) b bt.2 w h p (d.set (i : Int).toNat bt.1) else none) (fun k => ?_) ?_
      · simp only [spec_randomImage.l0]
        rw [if_pos (by omega), if_pos c0]
      · refine ev_bind hv (ev_pos (by omega) ?_)
        simp only [Int.toNat_natCast, w64n i (by omega)]
        exact e4
    · by_cases c1 : m = 1
      · obtain ⟨v, hv, _, _⟩ := pick_in b pos 5 (by omega) hb h0 (by omega)
        obtain ⟨d', q, e1, e2, e3, e4⟩ := go (Int.tmod (wrap64 ((wrap64 (x + v)) + 254)) 256) (Int.tmod (wrap64 ((wrap64 (x + v)) + 254)) 256) (pos + 1) (by omega) (by omega)
        refine ⟨d', q, e1, e2, e3, ?_⟩
        refine Ev.step (f := fun k => (spec_reader_pick.f k b pos 5).bind fun bt => if 0 ≤ (i : Int) then spec_randomImage.l0 k m (Int.tmod (wrap64 ((wrap64 (x + bt.1)) + 254)) 256) (wrap64 ((i : Int) + 1)) b bt.2 w h p (d.set (i : Int).toNat (Int.tmod (wrap64 ((wrap64 (x + bt.1)) + 254)) 256)) else none) (fun k => ?_) ?_
        · simp only [spec_randomImage.l0]
          rw [if_pos (by omega), if_neg c0, if_pos c1]
        · refine ev_bind hv (ev_pos (by omega) ?_)
          simp only [Int.toNat_natCast, w64n i (by omega)]
          exact e4
      · by_cases c2 : m = 2
        · obtain ⟨v, hv, _, _⟩ := pick_in b pos 4 (by omega) hb h0 (by omega)
          obtain ⟨d', q, e1, e2, e3, e4⟩ := go (wrap64 (60 * v)) (wrap64 (60 * v)) (pos + 1) (by omega) (by omega)
          refine ⟨d', q, e1, e2, e3, ?_⟩
          refine Ev.step (f := fun k => (spec_reader_pick.f k b pos 4).bind fun bt => if 0 ≤ (i : Int) then spec_randomImage.l0 k m (wrap64 (60 * bt.1)) (wrap64 ((i : Int) + 1)) b bt.2 w h p (d.set (i : Int).toNat (wrap64 (60 * bt.1))) else none) (fun k => ?_) ?_
          · simp only [spec_randomImage.l0]
            rw [if_pos (by omega), if_neg c0, if_neg c1, if_pos c2]
          · refine ev_bind hv (ev_pos (by omega) ?_)
            simp only [Int.toNat_natCast, w64n i (by omega)]
            exact e4
        · obtain ⟨d', q, e1, e2, e3, e4⟩ := go x x pos (by omega) (by omega)
          refine ⟨d', q, e1, e2, e3, Ev.step (fun k => ?_) e4⟩
          simp only [spec_randomImage.l0]
          rw [if_pos (by omega), if_neg c0, if_neg c1, if_neg c2, if_pos (by omega), Int.toNat_natCast, w64n i (by omega)]
theorem randomImage_ev (b : List Int) (pos p : Int) (hb : Bytes b) (h0 : 0 ≤ pos) (h1 : pos ≤ 100000000) (hp : 1 ≤ p ∧ p ≤ 4) :
    ∃ (w h : Int) (d : List Int) (q : Int), 1 ≤ w ∧ w ≤ 8 ∧ 1 ≤ h ∧ h ≤ 8 ∧ (d.length : Int) = w * h * p ∧ 1 ≤ d.length ∧ d.length ≤ 1024 ∧ pos ≤ q ∧ q ≤ pos + 2000 ∧ Ev (fun k => spec_randomImage.f k b pos p) (w, h, p, d, q) := by
  obtain ⟨w, hw, mw⟩ := one_in b pos [3, 4, 2, 5, 1, 8, 6] (by simp) (by simp) hb h0 (by omega)
  obtain ⟨h, hh, mh⟩ := one_in b (pos + 1) [3, 2, 4, 1, 5, 8] (by simp) (by simp) hb (by omega) (by omega)
  obtain ⟨m, hm, _, _⟩ := pick_in b (pos + 1 + 1) 4 (by omega) hb (by omega) (by omega)
  obtain ⟨x, hx, _, _⟩ := pick_in b (pos + 1 + 1 + 1) 256 (by omega) hb (by omega) (by omega)
  have bw : 1 ≤ w ∧ w ≤ 8 := by simp only [List.mem_cons, List.not_mem_nil, or_false] at mw; omega
  have bh : 1 ≤ h ∧ h ≤ 8 := by simp only [List.mem_cons, List.not_mem_nil, or_false] at mh; omega
  have hs : 1 ≤ w ∧ w ≤ 16 ∧ 1 ≤ h ∧ h ≤ 16 ∧ 1 ≤ p ∧ p ≤ 4 := by omega
  have hpr := shape_prod hs
  have hpos : 1 ≤ w * h * p := by
    have e1 : 1 * 1 ≤ w * h := Int.mul_le_mul (by omega) (by omega) (by omega) (by omega)
    have e2 : 1 * 1 ≤ w * h * p := Int.mul_le_mul (by omega) (by omega) (by omega) (by omega)
    omega
  have hlen : (List.replicate (w * h * p).toNat (0 : Int)).length = (w * h * p).toNat := List.length_replicate
  obtain ⟨d', q, e1, e2, e3, e4⟩ := randomLoop b hb m w h p (w * h * p).toNat 0 x (pos + 1 + 1 + 1 + 1) (List.replicate (w * h * p).toNat 0) (by omega) (by omega) (by omega) (by omega)
  refine ⟨w, h, d', q, bw.1, bw.2, bh.1, bh.2, by omega, by omega, by omega, by omega, by omega, ?_⟩
  unfold spec_randomImage.f
  exact ev_bind hw (ev_bind hh (ev_now (newImage_eq w h p hs) (ev_bind hm (ev_bind hx e4))))
theorem anyPlanes_ev (b : List Int) (pos : Int) (hb : Bytes b) (h0 : 0 ≤ pos) (h1 : pos ≤ 100000000) : ∃ p, 1 ≤ p ∧ p ≤ 4 ∧ Ev (fun k => spec_anyPlanes.f k b pos) (p, pos + 1) := by
  obtain ⟨p, hp, mp⟩ := one_in b pos [1, 3, 1, 4, 2] (by simp) (by simp) hb h0 (by omega)
  simp only [List.mem_cons, List.not_mem_nil, or_false] at mp
  refine ⟨p, by omega, by omega, ?_⟩
  unfold spec_anyPlanes.f
  exact ev_bind hp (Ev.now _)
theorem spoilImage_ev (b : List Int) (pos : Int) (w h p : Int) (d : List Int) (hb : Bytes b) (h0 : 0 ≤ pos) (h1 : pos ≤ 100000000) (hd : 1 ≤ d.length) :
    ∃ (w' h' p' : Int) (d' : List Int) (q : Int), d'.length ≤ d.length ∧ pos ≤ q ∧ q ≤ pos + 2 ∧ Ev (fun k => spec_spoilImage.f k b pos w h p d) (w', h', p', d', q) := by
  obtain ⟨v, hv, _, _⟩ := pick_in b pos 40 (by omega) hb h0 (by omega)
  unfold spec_spoilImage.f
  by_cases c0 : v = 0
  · obtain ⟨x, hx, _⟩ := one_in b (pos + 1) [0, 17, wrap64 (w + 1)] (by simp) (by simp) hb (by omega) (by omega)
    exact ⟨x, h, p, d, pos + 1 + 1, by omega, by omega, by omega, ev_bind hv (ev_pos c0 (ev_bind hx (Ev.now _)))⟩
  · by_cases c1 : v = 1
    · exact ⟨w, h, p, d.drop (1 : Int).toNat, pos + 1, by rw [List.length_drop]; omega, by omega, by omega, ev_bind hv (ev_neg c0 (ev_pos c1 (ev_pos (by omega) (Ev.now _))))⟩
    · by_cases c2 : v = 2
      · obtain ⟨x, hx, _⟩ := one_in b (pos + 1) [(-1), 256] (by simp) (by simp) hb (by omega) (by omega)
        exact ⟨w, h, p, d.set (0 : Int).toNat x, pos + 1 + 1, by rw [List.length_set]; omega, by omega, by omega, ev_bind hv (ev_neg c0 (ev_neg c1 (ev_pos c2 (ev_bind hx (ev_pos (by omega) (Ev.now _))))))⟩
      · by_cases c3 : v = 3
        · obtain ⟨x, hx, _⟩ := one_in b (pos + 1) [0, 5] (by simp) (by simp) hb (by omega) (by omega)
          exact ⟨w, h, x, d, pos + 1 + 1, by omega, by omega, by omega, ev_bind hv (ev_neg c0 (ev_neg c1 (ev_neg c2 (ev_pos c3 (ev_bind hx (Ev.now _))))))⟩
        · exact ⟨w, h, p, d, pos + 1, by omega, by omega, by omega, ev_bind hv (ev_neg c0 (ev_neg c1 (ev_neg c2 (ev_neg c3 (Ev.now _)))))⟩
theorem anyImage_ev (b : List Int) (pos : Int) (hb : Bytes b) (h0 : 0 ≤ pos) (h1 : pos ≤ 90000000) :
    ∃ (w h p : Int) (d : List Int) (q : Int), d.length ≤ 1024 ∧ pos ≤ q ∧ q ≤ pos + 3000 ∧ Ev (fun k => spec_anyImage.f k b pos) (w, h, p, d, q) := by
  obtain ⟨p, p1, p2, hp⟩ := anyPlanes_ev b pos hb h0 (by omega)
  obtain ⟨w, h, d, q, _, _, _, _, _, d1, d2, q1, q2, hr⟩ := randomImage_ev b (pos + 1) p hb (by omega) (by omega) ⟨p1, p2⟩
  obtain ⟨w', h', p', d', q', d3, q3, q4, hs⟩ := spoilImage_ev b q w h p d hb (by omega) (by omega) d1
  refine ⟨w', h', p', d', q', by omega, by omega, by omega, ?_⟩
  unfold spec_anyImage.f
  exact ev_bind hp (ev_bind hr (ev_bind hs (Ev.now _)))
end Go.Proofs.Ytnofkbbcbpjhfaa.Pure
