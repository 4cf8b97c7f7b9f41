/- A part of the proof that the statement FnFloodRegionSaid holds, under no condition of its own: Floods reach similar pixels: the law FnFloodRegion over lists of numbers alone. -/
import Derived.Test.YtbgohbinonkhfaaCFnFloodRegion1
import Derived.OrdersHeld
import Derived.Deep.RegionHeld
import Derived.RegionTactic
import Derived.BigQuiet
import Derived.Deep.QuietTactic
/- (impl.grid).runs: the runs of a grid, row by row. -/
namespace Go.Proofs.Ytbgohbinonkhfaa.Q
open Go.RowKit Go.Proofs.YtbgohbinonkhfaaW.PrintWords Go.Proofs.YtbgohbinonkhfaaW.PrintLast Go.Proofs.YtbgohbinonkhfaaW.PrintMore
attribute [local go_sem] max2_int min2_int max_two min_two max_three min_three max_four min_four
set_option linter.unusedVariables false
set_option linter.unusedSimpArgs false

/-- the end of the run that begins at x or before -/
def endAt (g : Nat → Bool) (y : Nat) : Nat → Nat → Nat
  | 0, x => x
  | n + 1, x => if x < 16 ∧ g (y * 16 + x) = true then endAt g y n (x + 1) else x
theorem endAt_ge (g : Nat → Bool) (y n x : Nat) : x ≤ endAt g y n x := by
  induction n generalizing x with
  | zero => exact Nat.le_refl _
  | succ n ih =>
    unfold endAt
    split
    · exact Nat.le_trans (Nat.le_succ x) (ih (x + 1))
    · exact Nat.le_refl _
/-- the runs of a row from column x on -/
def scanRow (g : Nat → Bool) (y x : Nat) : List S47 :=
  if _h : x < 16 then
    if g (y * 16 + x) = true then ⟨(y : Int), (x : Int), (endAt g y (16 - x) x : Nat)⟩ :: scanRow g y (endAt g y (16 - x) x + 1)
    else scanRow g y (x + 1)
  else []
  termination_by 16 - x
  decreasing_by
    · have := endAt_ge g y (16 - x) x; omega
    · omega
def runsTo (g : Nat → Bool) (y : Nat) : List S47 := (List.range y).flatMap fun y => scanRow g y 0
/-- the runs of a grid -/
def runsL (g : Nat → Bool) : List S47 := runsTo g 16
theorem runsTo_succ (g : Nat → Bool) (y : Nat) : runsTo g (y + 1) = runsTo g y ++ scanRow g y 0 := by
  simp [runsTo, List.range_succ]
theorem scan_true (g : Nat → Bool) (y x : Nat) (h : x < 16) (hg : g (y * 16 + x) = true) : scanRow g y x = ⟨(y : Int), (x : Int), (endAt g y (16 - x) x : Nat)⟩ :: scanRow g y (endAt g y (16 - x) x + 1) := by
  rw [scanRow, dif_pos h, if_pos hg]
theorem scan_false (g : Nat → Bool) (y x : Nat) (h : x < 16) (hg : g (y * 16 + x) = false) : scanRow g y x = scanRow g y (x + 1) := by
  rw [scanRow, dif_pos h, if_neg (by simp [hg])]
theorem scan_end (g : Nat → Bool) (y x : Nat) (h : 16 ≤ x) : scanRow g y x = [] := by
  rw [scanRow, dif_neg (by omega)]
theorem endAt_step (g : Nat → Bool) (y x : Nat) (h : x < 16) (hg : g (y * 16 + x) = true) : endAt g y (16 - x) x = endAt g y (16 - (x + 1)) (x + 1) := by
  rw [show 16 - x = (16 - (x + 1)) + 1 by omega]
  rw [endAt, if_pos ⟨h, hg⟩]
theorem endAt_stop (g : Nat → Bool) (y x : Nat) (h : 16 ≤ x ∨ g (y * 16 + x) = false) : endAt g y (16 - x) x = x := by
  cases hn : 16 - x with
  | zero => rfl
  | succ n => rw [endAt, if_neg (by rcases h with h | h; omega; simp [h])]

set_option maxHeartbeats 4000000 in
set_option maxRecDepth 100000 in
theorem runs_calls (g : Nat → Bool) (w : World) :
    Calls Try.prog 71 #[.agg (gc g)] w fun e w' => ∃ v0_ : Value, e = .returned (v0_) ∧ Kd.R k47 47 w' w.heap.size (fun _ => True) v0_ (runsL g) ∧ Below w.heap.size w w' := by
  have hu := Try.underlying47
  have hgs := gc_size g
  go_enter Try.func71, Try.ntmps71
  go_wp2
  go_loopw [3, 8] (fun v3 v8 W => ∃ y : Nat, v8 = .int .i64 y ∧ y ≤ 16 ∧ Aside0 (Kd.R k47 47 W w.heap.size (fun _ => True) v3 (runsTo g y) ∧ (runsTo g y).length ≤ 17 * y) ∧ GridAt W w.heap.size g ∧ Aside0 (Below w.heap.size w W)) (fun _ v8 _ => 16 - (intOf v8).toNat)
  case atStart =>
    have h := R_empty k47 47 w.heap.size (w.alloc (.cells (gc g) 75)) (by simp)
    simp only [World.size_alloc] at h
    exact ⟨0, rfl, by omega, ⟨h, by simp [runsTo]⟩, (GridAt.new _ _).alloc _, ⟨((Below.refl _ _).alloc (Nat.le_refl _) _).alloc (by simp) _⟩⟩
  case round =>
    obtain ⟨y, rfl, hy, hR, hg, hb⟩ := hrel
    by_cases hlt : y < 16
    · have hdy : decide ((y : Int) < 16) = true := by simp; omega
      go_wp2
      go_loopw [3, 5] (fun v3 v5 W => ∃ (x : Nat) (xs : List S47), v5 = .int .i64 x ∧ x ≤ 17 ∧ Aside0 (Kd.R k47 47 W w.heap.size (fun _ => True) v3 xs ∧ xs.length ≤ 17 * y + x ∧ xs ++ scanRow g y x = runsTo g (y + 1)) ∧ GridAt W w.heap.size g ∧ Aside0 (Below w.heap.size w W)) (fun _ v5 _ => 17 - (intOf v5).toNat)
      case atStart => exact ⟨0, _, rfl, by omega, ⟨hR.out.1, by have := hR.out.2; omega, (runsTo_succ g y).symm⟩, hg, hb⟩
      case round =>
        clear hR hg hb
        obtain ⟨x, xs, rfl, hx, hR, hg, hb⟩ := hrel
        by_cases hlx : x < 16
        · have hdx : decide ((x : Int) < 16) = true := by simp; omega
          have hc := hg.cell (y * 16 + x) (by omega)
          by_cases hv : g (y * 16 + x) = true
          · rw [hv] at hc
            have hs := scan_true g y x hlx hv
            have HS := Aside0.mk hs
            clear hs
            go_wp2
            go_loop [5] (fun v5 => ∃ z : Nat, v5 = .int .i64 z ∧ x ≤ z ∧ z ≤ 16 ∧ Aside0 (endAt g y (16 - z) z = endAt g y (16 - x) x)) (fun v5 => 16 - (intOf v5).toNat)
            case atStart => exact ⟨x, rfl, by omega, by omega, ⟨rfl⟩⟩
            case round =>
              clear hc
              obtain ⟨z, rfl, hxz, hz, hE⟩ := hrel
              have hgz := hg.alloc (.cells #[.int .i64 (y : Int), .int .i64 (x : Int), .int .i64 0] 47)
              by_cases hz16 : z < 16 ∧ g (y * 16 + z) = true
              · obtain ⟨hlz, hvz⟩ := hz16
                have hdz : decide ((z : Int) < 16) = true := by simp; omega
                have hc := hgz.cell (y * 16 + z) (by omega)
                rw [hvz] at hc
                have hE2 := Aside0.mk ((endAt_step g y z hlz hvz).symm.trans hE.out)
                clear hvz hE
                go_wp2
                go_round
                case rel => exact ⟨z + 1, by go_num, by omega, by omega, hE2⟩
                case measure => simp [intOf]; omega
              · have hz17 : 16 ≤ z ∨ g (y * 16 + z) = false := by
                  by_cases h : z < 16
                  · right
                    cases hgv : g (y * 16 + z) with
                    | false => rfl
                    | true => exact absurd ⟨h, hgv⟩ hz16
                  · left; omega
                have hstop := endAt_stop g y z hz17
                have hEZ := Aside0.mk (hE.out.symm.trans hstop)
                have hl24 : xs.length + 1 ≤ 1000 := by have := hR.out.2.1; omega
                have hRB := Aside0.mk (Kd.R_alloc hR.out.1 (.cells #[.int .i64 (y : Int), .int .i64 (x : Int), .int .i64 (z : Int)] 47))
                have hBB := Aside0.mk (below_alloc hb.out (.cells #[.int .i64 (y : Int), .int .i64 (x : Int), .int .i64 (z : Int)] 47))
                have hGB := Aside0.mk (blk_alloc hg (.cells #[.int .i64 (y : Int), .int .i64 (x : Int), .int .i64 (z : Int)] 47))
                have hNE := Aside0.mk (Kd.R_ne hRB.out hGB.out (by decide))
                clear hstop hE hz16
                rcases hz17 with hz17 | hz17
                · have hdz : decide ((z : Int) < 16) = false := by simp; omega
                  go_wp2_with (first | ((with_reducible refine gate_builtin (b := .append) (xs := #[.tmp 37, .tmp 39]) rfl ?_); at_builtin; refine Kd.R_append k47 w.heap.size rfl (.tmp 37) (.tmp 39) 26 47 (.agg #[(.int .i64 0), (.int .i64 0), (.int .i64 0)]) 24 rfl Try.underlying26 info47 rfl (by decide) (by omega) u3 xs (⟨(y : Int), (x : Int), (z : Int)⟩ : S47) [.int .i64 (y : Int), .int .i64 (x : Int), .int .i64 (z : Int)] (fun _ => True) (fun _ => False) rfl ?aX ?aP (fun _ hk => hk.elim) (fun _ _ => trivial) hRB.out hBB.out ?aS ?aL ?_; (case aX => rw [World.size_alloc]; rfl); (case aP => exact k47_mkM _ _ _ (⟨(y : Int), (x : Int), (z : Int)⟩ : S47)); (case aS => exact hBB.out.size); (case aL => omega); intro v4 w4 ho hb4 hg4 hat4; have hG4 := Aside0.mk (blk_grown hGB.out hg4 hNE.out); have hO4 := Aside0.mk ho; have hB4 := Aside0.mk hb4; clear ho hb4 hg4 hat4))
                  go_roundw
                  case rel =>
                    refine ⟨z + 1, xs ++ [⟨(y : Int), (x : Int), (z : Int)⟩], by go_num, by omega, ⟨hO4.out, by have := hR.out.2.1; rw [List.length_append]; simp; omega, ?_⟩, hG4.out, hB4⟩
                    have h1 := hR.out.2.2
                    rw [HS.out, hEZ.out] at h1
                    rw [List.append_assoc]; exact h1
                  case measure => simp [intOf]; omega
                · by_cases hlz : z < 16
                  · have hdz : decide ((z : Int) < 16) = true := by simp; omega
                    have hc := hgz.cell (y * 16 + z) (by omega)
                    rw [hz17] at hc
                    go_wp2_with (first | ((with_reducible refine gate_builtin (b := .append) (xs := #[.tmp 37, .tmp 39]) rfl ?_); at_builtin; refine Kd.R_append k47 w.heap.size rfl (.tmp 37) (.tmp 39) 26 47 (.agg #[(.int .i64 0), (.int .i64 0), (.int .i64 0)]) 24 rfl Try.underlying26 info47 rfl (by decide) (by omega) u3 xs (⟨(y : Int), (x : Int), (z : Int)⟩ : S47) [.int .i64 (y : Int), .int .i64 (x : Int), .int .i64 (z : Int)] (fun _ => True) (fun _ => False) rfl ?aX ?aP (fun _ hk => hk.elim) (fun _ _ => trivial) hRB.out hBB.out ?aS ?aL ?_; (case aX => rw [World.size_alloc]; rfl); (case aP => exact k47_mkM _ _ _ (⟨(y : Int), (x : Int), (z : Int)⟩ : S47)); (case aS => exact hBB.out.size); (case aL => omega); intro v4 w4 ho hb4 hg4 hat4; have hG4 := Aside0.mk (blk_grown hGB.out hg4 hNE.out); have hO4 := Aside0.mk ho; have hB4 := Aside0.mk hb4; clear ho hb4 hg4 hat4))
                    go_roundw
                    case rel =>
                      refine ⟨z + 1, xs ++ [⟨(y : Int), (x : Int), (z : Int)⟩], by go_num, by omega, ⟨hO4.out, by have := hR.out.2.1; rw [List.length_append]; simp; omega, ?_⟩, hG4.out, hB4⟩
                      have h1 := hR.out.2.2
                      rw [HS.out, hEZ.out] at h1
                      rw [List.append_assoc]; exact h1
                    case measure => simp [intOf]; omega

                  · have hdz : decide ((z : Int) < 16) = false := by simp; omega
                    go_wp2_with (first | ((with_reducible refine gate_builtin (b := .append) (xs := #[.tmp 37, .tmp 39]) rfl ?_); at_builtin; refine Kd.R_append k47 w.heap.size rfl (.tmp 37) (.tmp 39) 26 47 (.agg #[(.int .i64 0), (.int .i64 0), (.int .i64 0)]) 24 rfl Try.underlying26 info47 rfl (by decide) (by omega) u3 xs (⟨(y : Int), (x : Int), (z : Int)⟩ : S47) [.int .i64 (y : Int), .int .i64 (x : Int), .int .i64 (z : Int)] (fun _ => True) (fun _ => False) rfl ?aX ?aP (fun _ hk => hk.elim) (fun _ _ => trivial) hRB.out hBB.out ?aS ?aL ?_; (case aX => rw [World.size_alloc]; rfl); (case aP => exact k47_mkM _ _ _ (⟨(y : Int), (x : Int), (z : Int)⟩ : S47)); (case aS => exact hBB.out.size); (case aL => omega); intro v4 w4 ho hb4 hg4 hat4; have hG4 := Aside0.mk (blk_grown hGB.out hg4 hNE.out); have hO4 := Aside0.mk ho; have hB4 := Aside0.mk hb4; clear ho hb4 hg4 hat4))
                    go_roundw
                    case rel =>
                      refine ⟨z + 1, xs ++ [⟨(y : Int), (x : Int), (z : Int)⟩], by go_num, by omega, ⟨hO4.out, by have := hR.out.2.1; rw [List.length_append]; simp; omega, ?_⟩, hG4.out, hB4⟩
                      have h1 := hR.out.2.2
                      rw [HS.out, hEZ.out] at h1
                      rw [List.append_assoc]; exact h1
                    case measure => simp [intOf]; omega
          · replace hv : g (y * 16 + x) = false := by simpa using hv
            rw [hv] at hc
            have hs := scan_false g y x hlx hv
            have HS := Aside0.mk hs
            clear hs
            go_wp2
            go_roundw
            case rel => exact ⟨x + 1, xs, by go_num, by omega, ⟨hR.out.1, by have := hR.out.2.1; omega, by rw [← HS.out]; exact hR.out.2.2⟩, hg, hb⟩
            case measure => simp [intOf]; omega
        · have hdx : decide ((x : Int) < 16) = false := by simp; omega
          have he := scan_end g y x (by omega)
          have HE := Aside0.mk he
          clear he
          go_wp2
          go_roundw
          case rel =>
            have h1 := hR.out.2.2
            rw [HE.out, List.append_nil] at h1
            exact ⟨y + 1, by go_num, by omega, ⟨by rw [← h1]; exact hR.out.1, by rw [← h1]; have := hR.out.2.1; omega⟩, hg, hb⟩
          case measure => simp [intOf]; omega
    · have hdy : decide ((y : Int) < 16) = false := by simp; omega
      have hy16 : y = 16 := by omega
      subst hy16
      go_wp2
      go_ret
      exact ⟨_, rfl, hR.out.1, hb.out⟩
end Go.Proofs.Ytbgohbinonkhfaa.Q

/- Grids and their runs, as the reference has them: lists of 256 bools. -/
namespace Go.Proofs.Ytbgohbinonkhfaa.Pure
open Go.RowKit Go.Proofs.Ytbgohbinonkhfaa.Q Go.Proofs.YtbgohbinonkhfaaW.PrintWords Go.Proofs.YtbgohbinonkhfaaW.PrintLast Go.Proofs.YtbgohbinonkhfaaW.PrintMore
set_option linter.unusedVariables false
set_option linter.unusedSimpArgs false

/-- A grid as a list. -/
def tab (g : Nat → Bool) : List Bool := (List.range 256).map g
theorem tab_length (g : Nat → Bool) : (tab g).length = 256 := by simp [tab]
theorem tab_get (g : Nat → Bool) (i : Nat) (h : i < 256) : rdOf false (tab g) (i : Int) = g i := by
  simp [rdOf, tab, List.getD_eq_getElem?_getD, h]
theorem tab_set (g : Nat → Bool) (i : Nat) (b : Bool) : (tab g).set i b = tab (fun p => if p = i then b else g p) := by
  apply List.ext_getElem
  · simp [tab]
  · intro j h1 h2
    rw [List.getElem_set]
    simp only [tab, List.getElem_map, List.getElem_range]
    by_cases e : i = j
    · rw [if_pos e, if_pos e.symm]
    · rw [if_neg e, if_neg (fun h => e h.symm)]
theorem tab_congr {g g' : Nat → Bool} (h : ∀ p, p < 256 → g p = g' p) : tab g = tab g' := by
  unfold tab
  apply List.map_congr_left
  intro p hp
  exact h p (by simpa using hp)
theorem tab_false : List.replicate 256 false = tab (fun _ => false) := by
  refine List.ext_getElem (by rw [List.length_replicate, tab_length]) (fun j h1 h2 => ?_)
  rw [List.getElem_replicate]
  simp only [tab, List.getElem_map]
/-- a grid's cells beyond 256 do not matter to its runs -/
theorem endAt_congr {g g' : Nat → Bool} (h : ∀ p, p < 256 → g p = g' p) (y : Nat) (hy : y < 16) : ∀ n x, endAt g y n x = endAt g' y n x := by
  intro n
  induction n with
  | zero => intro x; rfl
  | succ n ih =>
    intro x
    unfold endAt
    by_cases hx : x < 16
    · rw [h (y * 16 + x) (by omega), ih (x + 1)]
    · rw [if_neg (fun c => hx c.1), if_neg (fun c => hx c.1)]
theorem scan_congr {g g' : Nat → Bool} (h : ∀ p, p < 256 → g p = g' p) (y : Nat) (hy : y < 16) : ∀ d x, 17 ≤ x + d → scanRow g y x = scanRow g' y x := by
  intro d
  induction d with
  | zero => intro x hx; rw [scan_end g y x (by omega), scan_end g' y x (by omega)]
  | succ d ih =>
    intro x hx
    by_cases h16 : x < 16
    · cases hv : g (y * 16 + x) with
      | true =>
        have hv' : g' (y * 16 + x) = true := by rw [← h _ (by omega)]; exact hv
        have := endAt_ge g y (16 - x) x
        rw [scan_true g y x h16 hv, scan_true g' y x h16 hv', endAt_congr h y hy, ih _ (by rw [← endAt_congr h y hy]; omega)]
      | false =>
        have hv' : g' (y * 16 + x) = false := by rw [← h _ (by omega)]; exact hv
        rw [scan_false g y x h16 hv, scan_false g' y x h16 hv', ih _ (by omega)]
    · rw [scan_end g y x (by omega), scan_end g' y x (by omega)]
theorem runsL_congr {g g' : Nat → Bool} (h : ∀ p, p < 256 → g p = g' p) : runsL g = runsL g' := by
  unfold runsL runsTo
  rw [List.flatMap_def, List.flatMap_def]
  congr 1
  apply List.map_congr_left
  intro y hy
  exact scan_congr h y (by simpa using hy) 17 0 (by omega)
/-! the reference's grid -/
/-! the reference's runs -/
def rowRest (g : Nat → Bool) (y x : Nat) (from_ : Int) : List Run :=
  if from_ < 0 then scanRow g y x else ⟨(y : Int), from_, (endAt g y (16 - x) x : Nat)⟩ :: scanRow g y (endAt g y (16 - x) x + 1)
theorem spec_runsOf_ev (g : Nat → Bool) : Ev (fun k => spec_runsOf.f k (tab g)) (runsL g) := by
  have key := ev_up2 16 (fun k y (s : List Run) => spec_runsOf.l0 k (tab g) s (y : Int)) (fun y s => s = runsTo g y ∧ s.length ≤ 17 * y) (fun _ _ => runsL g)
    (by
      intro y s hy hs
      right
      have inner : ∀ r, (∀ acc : List Run, acc = runsTo g (y + 1) → acc.length ≤ 17 * (y + 1) → Ev (fun k => spec_runsOf.l0 k (tab g) acc ((y + 1 : Nat) : Int)) r) →
          Ev (fun k => spec_runsOf.l1 k (tab g) s (y : Int) (-1) 0) r := by
        intro r hnext
        have h := ev_up2 17 (fun k x (q : List Run × Int) => spec_runsOf.l1 k (tab g) q.1 (y : Int) q.2 (x : Int))
          (fun x q => q.1 ++ rowRest g y x q.2 = runsTo g (y + 1) ∧ q.1.length ≤ 17 * y + x ∧ (q.2 = -1 ∨ (0 ≤ q.2 ∧ q.2 < x ∧ x ≤ 16))) (fun _ _ => r)
          (by
            intro x q hx hq
            obtain ⟨acc, fr⟩ := q
            obtain ⟨h1, h2, h3⟩ := hq
            simp only at h1 h2 h3
            right
            have j3 : ∀ (b : Bool), (x < 16 → b = g (y * 16 + x)) → (x = 16 → b = false) → ∃ s' : List Run × Int,
                (∀ r, Ev (fun k => spec_runsOf.l1 k (tab g) s'.1 (y : Int) s'.2 ((x + 1 : Nat) : Int)) r → Ev (fun k => spec_runsOf.j2 k (tab g) acc (y : Int) fr (x : Int) b) r) ∧
                (s'.1 ++ rowRest g y (x + 1) s'.2 = runsTo g (y + 1) ∧ s'.1.length ≤ 17 * y + (x + 1) ∧ (s'.2 = -1 ∨ (0 ≤ s'.2 ∧ s'.2 < ((x + 1 : Nat) : Int) ∧ x + 1 ≤ 16))) := by
              intro b hb hb16
              rcases h3 with h3 | h3
              · subst h3
                cases b with
                | true =>
                  have hx16 : x < 16 := by
                    by_cases c : x = 16
                    · have := hb16 c; cases this
                    · omega
                  refine ⟨(acc, (x : Int)), fun r hr => ?_, ?_, by simp only; omega, .inr (by simp only; omega)⟩
                  · refine Ev.step (f := fun k => spec_runsOf.j3 k (tab g) acc (y : Int) (-1) (x : Int) true true) (fun k => ?_) (Ev.step (fun k => ?_) hr)
                    · simp only [spec_runsOf.j2]; simp
                    · simp only [spec_runsOf.j3]
                      rw [if_pos trivial, if_pos trivial, w64n x (by omega)]
                  · have hv := (hb hx16).symm
                    rw [← h1]
                    show acc ++ rowRest g y (x + 1) (x : Int) = acc ++ rowRest g y x (-1)
                    unfold rowRest
                    rw [if_neg (by omega), if_pos (by omega), scan_true g y x hx16 hv, endAt_step g y x hx16 hv]
                | false =>
                  refine ⟨(acc, -1), fun r hr => ?_, ?_, by simp only; omega, .inl rfl⟩
                  · refine Ev.step (f := fun k => spec_runsOf.j3 k (tab g) acc (y : Int) (-1) (x : Int) false false) (fun k => ?_) (Ev.step (fun k => ?_) hr)
                    · simp only [spec_runsOf.j2]; simp
                    · simp only [spec_runsOf.j3]
                      rw [if_neg (by simp), if_neg (by simp), if_neg (by omega), w64n x (by omega)]
                  · rw [← h1]
                    show acc ++ rowRest g y (x + 1) (-1) = acc ++ rowRest g y x (-1)
                    unfold rowRest
                    rw [if_pos (by omega), if_pos (by omega)]
                    by_cases c : x < 16
                    · rw [scan_false g y x c (hb c).symm]
                    · rw [scan_end g y x (by omega), scan_end g y (x + 1) (by omega)]
              · cases b with
                | true =>
                  have hx16 : x < 16 := by
                    by_cases c : x = 16
                    · have := hb16 c; cases this
                    · omega
                  refine ⟨(acc, fr), fun r hr => ?_, ?_, by simp only; omega, .inr (by simp only; omega)⟩
                  · refine Ev.step (f := fun k => spec_runsOf.j3 k (tab g) acc (y : Int) fr (x : Int) true false) (fun k => ?_) (Ev.step (fun k => ?_) hr)
                    · simp only [spec_runsOf.j2]
                      rw [if_pos trivial, decide_eq_false (show ¬ fr < 0 by omega)]
                    · simp only [spec_runsOf.j3]
                      rw [if_neg (by simp), if_pos trivial, w64n x (by omega)]
                  · have hv := (hb hx16).symm
                    rw [← h1]
                    show acc ++ rowRest g y (x + 1) fr = acc ++ rowRest g y x fr
                    unfold rowRest
                    rw [if_neg (by omega), if_neg (by omega), endAt_step g y x hx16 hv]
                | false =>
                  refine ⟨(acc ++ [⟨(y : Int), fr, (x : Int)⟩], -1), fun r hr => ?_, ?_, by simp; omega, .inl rfl⟩
                  · refine Ev.step (f := fun k => spec_runsOf.j3 k (tab g) acc (y : Int) fr (x : Int) false false) (fun k => ?_) (Ev.step (fun k => ?_) hr)
                    · simp only [spec_runsOf.j2]; simp
                    · simp only [spec_runsOf.j3]
                      rw [if_neg (by simp), if_neg (by simp), if_pos (by omega), if_pos (by omega), w64n x (by omega)]
                  · rw [← h1]
                    show acc ++ [⟨(y : Int), fr, (x : Int)⟩] ++ rowRest g y (x + 1) (-1) = acc ++ rowRest g y x fr
                    unfold rowRest
                    have hst : endAt g y (16 - x) x = x := endAt_stop g y x (by
                      by_cases c : x < 16
                      · right; exact (hb c).symm
                      · left; omega)
                    rw [if_pos (by omega), if_neg (by omega), hst]
                    simp
            by_cases hx16 : x < 16
            · obtain ⟨s', e1, e2⟩ := j3 (g (y * 16 + x)) (fun _ => rfl) (fun c => by omega)
              refine ⟨s', fun r hr => ?_, e2, rfl⟩
              refine Ev.step (fun k => ?_) (e1 r hr)
              simp only [spec_runsOf.l1]
              have e3 : wrap64 (wrap64 ((y : Int) * 16) + (x : Int)) = ((y * 16 + x : Nat) : Int) := by
                rw [w64 (x := (y : Int) * 16) (by omega) (by omega), w64 (x := (y : Int) * 16 + (x : Int)) (by omega) (by omega)]; omega
              rw [if_pos (by omega), if_pos (by omega), e3, if_pos (by omega), tab_length, if_pos (by omega), tab_get g _ (by omega)]
            · obtain ⟨s', e1, e2⟩ := j3 false (fun c => by omega) (fun _ => rfl)
              refine ⟨s', fun r hr => ?_, e2, rfl⟩
              refine Ev.step (fun k => ?_) (e1 r hr)
              simp only [spec_runsOf.l1]
              rw [if_pos (by omega), if_neg (by omega)])
          (by
            intro q hq
            obtain ⟨acc, fr⟩ := q
            obtain ⟨h1, h2, h3⟩ := hq
            simp only at h1 h2 h3
            have hf : fr = -1 := by omega
            subst hf
            have he : acc = runsTo g (y + 1) := by
              rw [← h1]
              unfold rowRest
              rw [if_pos (by omega), scan_end g y 17 (by omega), List.append_nil]
            refine Ev.step (fun k => ?_) (hnext acc he (by omega))
            simp only [spec_runsOf.l1]
            rw [if_neg (by omega), w64n y (by omega)])
          17 0 (s, -1) (by omega) ⟨by
            unfold rowRest
            rw [if_pos (by omega), hs.1, ← runsTo_succ], by have := hs.2; simp only; omega, .inl rfl⟩
        exact h
      have hlen : (runsTo g (y + 1)).length ≤ 17 * (y + 1) := by
        rw [runsTo_succ, List.length_append]
        have hsc : ∀ d x, 17 ≤ x + d → (scanRow g y x).length ≤ 17 - x := by
          intro d
          induction d with
          | zero => intro x hx; rw [scan_end g y x (by omega)]; simp
          | succ d ih =>
            intro x hx
            by_cases h16 : x < 16
            · cases hv : g (y * 16 + x) with
              | true =>
                have := endAt_ge g y (16 - x) x
                rw [scan_true g y x h16 hv, List.length_cons]
                have := ih (endAt g y (16 - x) x + 1) (by omega)
                omega
              | false =>
                rw [scan_false g y x h16 hv]
                have := ih (x + 1) (by omega)
                omega
            · rw [scan_end g y x (by omega)]; simp
        have h1 := hsc 17 0 (by omega)
        have h2 := hs.2
        rw [hs.1] at h2
        omega
      refine ⟨runsTo g (y + 1), fun r hr => ?_, ⟨rfl, hlen⟩, rfl⟩
      refine Ev.step (fun k => ?_) (inner r (fun acc ha _ => by rw [ha]; exact hr))
      simp only [spec_runsOf.l0]
      rw [if_pos (by omega)])
    (by
      intro s hs
      refine Ev.step (f := fun _ => some s) (fun k => ?_) (ev_val (Ev.now s) hs.1)
      simp only [spec_runsOf.l0]
      rw [if_neg (by omega)])
    16 0 [] (by omega) ⟨by simp [runsTo], by simp⟩
  exact key
end Go.Proofs.Ytbgohbinonkhfaa.Pure

/- Pixels that are connected in a grid: what a search finds that begins at one of them. -/
namespace Go.Proofs.Ytbgohbinonkhfaa.Q
open Go.RowKit Go.Proofs.YtbgohbinonkhfaaW.PrintWords Go.Proofs.YtbgohbinonkhfaaW.PrintLast Go.Proofs.YtbgohbinonkhfaaW.PrintMore
attribute [local go_sem] max2_int min2_int max_two min_two max_three min_three max_four min_four
set_option linter.unusedVariables false
set_option linter.unusedSimpArgs false

/-- q and r are neighbours in a row or a column. -/
def Adj (q r : Nat) : Prop := (r = q + 1 ∧ q % 16 < 15) ∨ (q = r + 1 ∧ r % 16 < 15) ∨ r = q + 16 ∨ q = r + 16
inductive Reach (g : Nat → Bool) (s : Nat) : Nat → Prop
  | here : Reach g s s
  | step (q r : Nat) : Reach g s q → Adj q r → r < 256 → g r = true → Reach g s r
/-- The pixels that are connected with pixel s. -/
noncomputable def comp (g : Nat → Bool) (s q : Nat) : Bool := @decide (Reach g s q) (Classical.propDecidable _)
theorem comp_iff (g : Nat → Bool) (s q : Nat) : comp g s q = true ↔ Reach g s q := by
  unfold comp
  exact @decide_eq_true_iff _ (Classical.propDecidable _)
/-- A search from s: what has been seen, what is still to be looked at, and the neighbours of p that are still to be looked at. -/
structure Mid (g : Nat → Bool) (s : Nat) (out : Nat → Bool) (todo : List Nat) (p : Nat) (pend : List (Int × Int)) : Prop where
  start : out s = true
  reach : ∀ q, q < 256 → out q = true → Reach g s q
  todo_ok : ∀ q, q ∈ todo → q < 256 ∧ out q = true
  cur : p < 256 ∧ out p = true
  done : ∀ q r, q < 256 → r < 256 → out q = true → Adj q r → g r = true → out r = true ∨ q ∈ todo ∨ (q = p ∧ (((r % 16 : Nat) : Int), ((r / 16 : Nat) : Int)) ∈ pend)
theorem mid_init (g : Nat → Bool) (s : Nat) (hs : s < 256) : Mid g s (fun q => decide (q = s)) [s] s [] where
  start := by simp
  reach := fun q _ h => by
    have : q = s := by simpa using h
    subst this; exact .here
  todo_ok := fun q h => by
    have : q = s := by simpa using h
    subst this; exact ⟨hs, by simp⟩
  cur := ⟨hs, by simp⟩
  done := fun q r _ _ h _ _ => by
    have : q = s := by simpa using h
    right; left; simp [this]
theorem mid_pop {g : Nat → Bool} {s : Nat} {out : Nat → Bool} {todo todo' : List Nat} {p p0 : Nat} {pend : List (Int × Int)} (h : Mid g s out todo p0 []) (hp : p ∈ todo) (h1 : ∀ q, q ∈ todo → q = p ∨ q ∈ todo') (h2 : ∀ q, q ∈ todo' → q ∈ todo)
    (h3 : ∀ r, r < 256 → Adj p r → (((r % 16 : Nat) : Int), ((r / 16 : Nat) : Int)) ∈ pend) : Mid g s out todo' p pend where
  start := h.start
  reach := h.reach
  todo_ok := fun q hq => h.todo_ok q (h2 q hq)
  cur := h.todo_ok p hp
  done := fun q r hq hr ho ha hg => by
    rcases h.done q r hq hr ho ha hg with c | c | c
    · exact .inl c
    · rcases h1 q c with e | e
      · subst e; exact .inr (.inr ⟨rfl, h3 r hr ha⟩)
      · exact .inr (.inl e)
    · cases c.2
theorem hasP_iff (g : Nat → Bool) (x y : Int) : hasP g x y = true ↔ 0 ≤ x ∧ x < 16 ∧ 0 ≤ y ∧ y < 16 ∧ g (y.toNat * 16 + x.toNat) = true := by
  simp [hasP, and_assoc]
theorem hasP_nat (g : Nat → Bool) (r : Nat) (hr : r < 256) : hasP g ((r % 16 : Nat) : Int) ((r / 16 : Nat) : Int) = g r := by
  have e : r / 16 * 16 + r % 16 = r := by omega
  rw [Bool.eq_iff_iff, hasP_iff, Int.toNat_natCast, Int.toNat_natCast, e]
  constructor
  · intro h; exact h.2.2.2.2
  · intro h; exact ⟨by omega, by omega, by omega, by omega, h⟩
theorem mid_skip {g : Nat → Bool} {s : Nat} {out : Nat → Bool} {todo : List Nat} {p : Nat} {x y : Int} {pend : List (Int × Int)} (h : Mid g s out todo p ((x, y) :: pend)) (hc : hasP g x y = false ∨ out (y.toNat * 16 + x.toNat) = true) : Mid g s out todo p pend where
  start := h.start
  reach := h.reach
  todo_ok := h.todo_ok
  cur := h.cur
  done := fun q r hq hr ho ha hg => by
    rcases h.done q r hq hr ho ha hg with c | c | ⟨c1, c2⟩
    · exact .inl c
    · exact .inr (.inl c)
    · rcases List.mem_cons.1 c2 with e | e
      · injection e with e1 e2
        subst e1 e2
        rcases hc with hc | hc
        · rw [hasP_nat g r hr, hg] at hc; cases hc
        · rw [Int.toNat_natCast, Int.toNat_natCast, show r / 16 * 16 + r % 16 = r by omega] at hc
          exact .inl hc
      · exact .inr (.inr ⟨c1, e⟩)
theorem mid_push {g : Nat → Bool} {s : Nat} {out : Nat → Bool} {todo todo' : List Nat} {p : Nat} {x y : Int} {pend : List (Int × Int)} (h : Mid g s out todo p ((x, y) :: pend)) (hc : hasP g x y = true) (ha0 : Adj p (y.toNat * 16 + x.toNat))
    (h1 : ∀ q, q ∈ todo' → q = y.toNat * 16 + x.toNat ∨ q ∈ todo) (h2 : ∀ q, q ∈ todo → q ∈ todo') (h3 : y.toNat * 16 + x.toNat ∈ todo') : Mid g s (fun q => if q = y.toNat * 16 + x.toNat then true else out q) todo' p pend := by
  have hx := (hasP_iff g x y).1 hc
  refine ⟨?_, ?_, ?_, ?_, ?_⟩
  · show (if s = _ then true else out s) = true
    rw [h.start]; split <;> rfl
  · intro q hq ho
    by_cases e : q = y.toNat * 16 + x.toNat
    · subst e
      exact .step p _ (h.reach p h.cur.1 h.cur.2) ha0 hq hx.2.2.2.2
    · rw [if_neg e] at ho
      exact h.reach q hq ho
  · intro q hq
    rcases h1 q hq with e | e
    · subst e; exact ⟨by omega, by simp⟩
    · have := h.todo_ok q e
      refine ⟨this.1, ?_⟩
      rw [this.2]; split <;> rfl
  · refine ⟨h.cur.1, ?_⟩
    rw [h.cur.2]; split <;> rfl
  · intro q r hq hr ho ha hg
    by_cases e : q = y.toNat * 16 + x.toNat
    · subst e; exact .inr (.inl h3)
    · rw [if_neg e] at ho
      rcases h.done q r hq hr ho ha hg with c | c | ⟨c1, c2⟩
      · left; rw [c]; split <;> rfl
      · exact .inr (.inl (h2 q c))
      · rcases List.mem_cons.1 c2 with e | e
        · left
          injection e with e1 e2
          subst e1 e2
          rw [Int.toNat_natCast, Int.toNat_natCast, if_pos (by omega)]
        · exact .inr (.inr ⟨c1, e⟩)
theorem mid_end {g : Nat → Bool} {s : Nat} (hs : s < 256) {out : Nat → Bool} {p : Nat} (h : Mid g s out [] p []) (q : Nat) (hq : q < 256) : out q = comp g s q := by
  rw [Bool.eq_iff_iff, comp_iff]
  constructor
  · exact h.reach q hq
  · intro hr
    have key : ∀ q, Reach g s q → q < 256 ∧ out q = true := by
      intro q hr
      induction hr with
      | here => exact ⟨hs, h.start⟩
      | step q r _ ha hr hg ih =>
        refine ⟨hr, ?_⟩
        rcases h.done q r ih.1 hr ih.2 ha hg with c | c | ⟨_, c⟩
        · exact c
        · cases c
        · cases c
    exact (key q hr).2
/-- how much has not been seen -/
def unseen (out : Nat → Bool) : Nat := (List.range 256).countP fun q => !out q
theorem unseen_set (out : Nat → Bool) (p : Nat) (hp : p < 256) (h : out p = false) : unseen (fun q => if q = p then true else out q) + 1 = unseen out := by
  unfold unseen
  have key : ∀ (l : List Nat), l.Nodup → p ∈ l → l.countP (fun q => !(if q = p then true else out q)) + 1 = l.countP (fun q => !out q) := by
    intro l
    induction l with
    | nil => intro _ h; cases h
    | cons a l ih =>
      intro hn hm
      rw [List.countP_cons, List.countP_cons]
      by_cases e : a = p
      · subst e
        have hne : ∀ q ∈ l, (!(if q = a then true else out q)) = !out q := by
          intro q hq
          have : q ≠ a := fun e => (List.nodup_cons.1 hn).1 (e ▸ hq)
          rw [if_neg this]
        have hcc : l.countP (fun q => !(if q = a then true else out q)) = l.countP (fun q => !out q) := List.countP_congr (fun q hq => by rw [hne q hq])
        rw [hcc]
        simp [h]
      · have hm' : p ∈ l := by
          rcases List.mem_cons.1 hm with e' | e'
          · exact absurd e'.symm e
          · exact e'
        have := ih (List.nodup_cons.1 hn).2 hm'
        rw [if_neg e]
        omega
  exact key (List.range 256) List.nodup_range (by simpa using hp)
theorem nb_adj (p : Nat) (hp : p < 256) (x y : Int) (h0 : 0 ≤ x) (h1 : x < 16) (h2 : 0 ≤ y) (h3 : y < 16)
    (h : (x = ((p % 16 : Nat) : Int) - 1 ∧ y = ((p / 16 : Nat) : Int)) ∨ (x = ((p % 16 : Nat) : Int) + 1 ∧ y = ((p / 16 : Nat) : Int)) ∨ (x = ((p % 16 : Nat) : Int) ∧ y = ((p / 16 : Nat) : Int) - 1) ∨ (x = ((p % 16 : Nat) : Int) ∧ y = ((p / 16 : Nat) : Int) + 1)) :
    Adj p (y.toNat * 16 + x.toNat) := by
  unfold Adj
  omega
theorem adj_nb (p r : Nat) (hp : p < 256) (hr : r < 256) (h : Adj p r) :
    (((r % 16 : Nat) : Int) = ((p % 16 : Nat) : Int) - 1 ∧ ((r / 16 : Nat) : Int) = ((p / 16 : Nat) : Int)) ∨ (((r % 16 : Nat) : Int) = ((p % 16 : Nat) : Int) + 1 ∧ ((r / 16 : Nat) : Int) = ((p / 16 : Nat) : Int)) ∨ (((r % 16 : Nat) : Int) = ((p % 16 : Nat) : Int) ∧ ((r / 16 : Nat) : Int) = ((p / 16 : Nat) : Int) - 1) ∨ (((r % 16 : Nat) : Int) = ((p % 16 : Nat) : Int) ∧ ((r / 16 : Nat) : Int) = ((p / 16 : Nat) : Int) + 1) := by
  unfold Adj at h
  omega
end Go.Proofs.Ytbgohbinonkhfaa.Q

/- impl.gridBy: the grid of the pixels for which a function value's answer is true. -/
namespace Go.Proofs.Ytbgohbinonkhfaa.Q
open Go.RowKit Go.Proofs.YtbgohbinonkhfaaW.PrintWords Go.Proofs.YtbgohbinonkhfaaW.PrintLast Go.Proofs.YtbgohbinonkhfaaW.PrintMore
attribute [local go_sem] max2_int min2_int max_two min_two max_three min_three max_four min_four
set_option linter.unusedVariables false
set_option linter.unusedSimpArgs false

/-- what has been asked so far -/
def gso (so : Nat → Nat → Bool) (n : Nat) : Nat → Bool := fun p => decide (p < n) && so (p % 16) (p / 16)

theorem gso_step (so : Nat → Nat → Bool) (x y : Nat) (hx : x < 16) (p : Nat) : (if p = y * 16 + x then so x y else gso so (16 * y + x) p) = gso so (16 * y + (x + 1)) p := by
  unfold gso
  by_cases e : p = y * 16 + x
  · rw [if_pos e]
    have h1 : p % 16 = x := by omega
    have h2 : p / 16 = y := by omega
    rw [h1, h2]
    simp; omega
  · rw [if_neg e]
    congr 1
    rw [decide_eq_decide]
    omega
set_option maxHeartbeats 8000000 in
set_option maxRecDepth 100000 in
theorem gridBy_calls (q : Nat) (lb : Array Value) (so : Nat → Nat → Bool) (w : World)
    (eg : ∀ args W, (callFunc q args).run Try.prog W = .ok (.enter q args) W)
    (hp : ∀ (W : World) (x y : Nat), x < 16 → y < 16 → Below w.heap.size w W → Calls Try.prog q (#[.int .i64 (x : Int), .int .i64 (y : Int)] ++ lb) W fun e W' => e = .returned (.bool (so x y)) ∧ Below W.heap.size W W') :
    Calls Try.prog 67 #[.func (.func q) #[] lb] w fun e w' => e = .returned (.agg (gc (gso so 256))) ∧ Below w.heap.size w w' := by
  have HP := Aside0.mk hp
  clear hp
  have z0 := zero66
  have hst := run_storeCells_new (P := Try.prog) (w.alloc (.cells (gc fun _ => false) 75)) 75 (gc fun _ => false) (gc fun _ => false) (by rw [gc_size]; exact info66) rfl (gc_one _)
  simp only [World.size_alloc] at hst
  go_enter Try.func67, Try.ntmps67
  go_wp2
  go_loopw [7] (fun v7 W => ∃ y : Nat, v7 = .int .i64 y ∧ y ≤ 16 ∧ GridAt W (w.heap.size + 1) (gso so (16 * y)) ∧ GridAt W w.heap.size (fun _ => false) ∧ Aside0 (Below w.heap.size w W)) (fun v7 _ => 16 - (intOf v7).toNat)
  case atStart =>
    refine ⟨0, rfl, by omega, ?_, (GridAt.new _ _).alloc _, ⟨((Below.refl _ _).alloc (Nat.le_refl _) _).alloc (by simp) _⟩⟩
    have h := GridAt.new (w.alloc (.cells (gc fun _ => false) 75)) (fun _ => false)
    simp only [World.size_alloc] at h
    exact h.congr (fun p _ => by simp [gso])
  case round =>
    obtain ⟨y, rfl, hy, hg, hg2, hb⟩ := hrel
    clear hst
    by_cases hlt : y < 16
    · have hdy : decide ((y : Int) < 16) = true := by simp; omega
      go_wp2
      go_loopw [10] (fun v10 W => ∃ x : Nat, v10 = .int .i64 x ∧ x ≤ 16 ∧ GridAt W (w.heap.size + 1) (gso so (16 * y + x)) ∧ GridAt W w.heap.size (fun _ => false) ∧ Aside0 (Below w.heap.size w W)) (fun v10 _ => 16 - (intOf v10).toNat)
      case atStart => exact ⟨0, rfl, by omega, hg, hg2, hb⟩
      case round =>
        clear hg hg2 hb
        obtain ⟨x, rfl, hx, hg, hg2, hb⟩ := hrel
        by_cases hlx : x < 16
        · have hdx : decide ((x : Int) < 16) = true := by simp; omega
          go_wp2
          go_region_with (first | (go_at_fn q; refine (HP.out _ x y hlx hlt (by first | exact hb.out | exact below_drew hb.out | exact pw_below_drewN hb.out _)).mono ?_; rintro e w' ⟨rfl, hb2⟩; have hgn := Aside0.mk (blk_below (w := wr.drew) hg hb2); have hgn2 := Aside0.mk (blk_below (w := wr.drew) hg2 hb2); have hbn := Aside0.mk (below_then (below_drew hb.out) (below_drew hb.out).size hb2); have hc1 := GridAt.cell hgn.out (y * 16 + x) (by omega); have hf1 := GridAt.free hgn.out (y * 16 + x); clear hb2))
          all_goals
            go_wp2
            go_roundw
            case rel => exact ⟨x + 1, by go_num, by omega, (GridAt.set_ hgn.out (y * 16 + x) (so x y)).congr (fun p _ => gso_step so x y hlx p), blk_far hgn2.out (by simp) _, ⟨below_set hbn.out (by omega)⟩⟩
            case measure => simp [intOf]; omega
        · have hdx : decide ((x : Int) < 16) = false := by simp; omega
          have hx16 : x = 16 := by omega
          subst hx16
          go_wp2
          go_roundw
          case rel => exact ⟨y + 1, by go_num, by omega, hg.congr (fun p _ => by rw [Nat.mul_add]), hg2, hb⟩
          case measure => simp [intOf]; omega
    · have hdy : decide ((y : Int) < 16) = false := by simp; omega
      have hy16 : y = 16 := by omega
      subst hy16
      have hg' : wr.heap[w.heap.size + 1]? = some (.cells (gc (gso so 256)) 75 (0, 0)) := hg
      have hg2' : wr.heap[w.heap.size]? = some (.cells (gc fun _ => false) 75 (0, 0)) := hg2
      have hi : (Try.prog.info? 75).map (·.size) = some (gc (gso so 256)).size := by rw [gc_size]; exact info66
      have hold : (gc fun _ => false).size = (gc (gso so 256)).size := by rw [gc_size, gc_size]
      have h1 := gc_one (gso so 256)
      go_wp2_with (first
        | ((with_reducible refine gate_dst (N := 23) rfl ?_); refine wpList_load_row rfl 75 (.tmp 3) rfl (w.heap.size + 1) rfl 75 (gc (gso so 256)) (0, 0) (.array 16 73) hg' underlying66 rfl hi ?_)
        | ((with_reducible refine wpList_store_row rfl 75 (.tmp 2) (.tmp 23) rfl w.heap.size (gc (gso so 256)) ?hx ?hy 75 (gc fun _ => false) hg2' hi hold h1 ?_); (case hx => rfl); (case hy => rfl)))
      refine bodyPost_ret (results_cell_row rfl _ _ w.heap.size 75 (gc (gso so 256)) (0, 0) (.array 16 73) rfl (hg2.setRow (gso so 256)) underlying66 rfl hi) rfl ?_
      exact ⟨rfl, below_setRow hb.out (Nat.le_refl _) _⟩
end Go.Proofs.Ytbgohbinonkhfaa.Q

/- Neighbours of a grid's pixels, by their numbers; a loop that fills a grid. -/
namespace Go.Proofs.Ytbgohbinonkhfaa.Pure
open Go.RowKit Go.Proofs.Ytbgohbinonkhfaa.Q Go.Proofs.YtbgohbinonkhfaaW.PrintWords Go.Proofs.YtbgohbinonkhfaaW.PrintLast Go.Proofs.YtbgohbinonkhfaaW.PrintMore
set_option linter.unusedVariables false
set_option linter.unusedSimpArgs false

theorem gso_at (so : Nat → Nat → Bool) (p : Nat) (h : p < 256) : gso so 256 p = so (p % 16) (p / 16) := by
  unfold gso; rw [decide_eq_true h, Bool.true_and]
def rdT (g : Nat → Bool) (i : Int) : Bool := rdOf false (tab g) i
theorem rdT_nat (g : Nat → Bool) (i : Nat) (h : i < 256) : rdT g (i : Int) = g i := tab_get g i h
theorem hasP_no (g : Nat → Bool) (x y : Int) (h : x < 0 ∨ 16 ≤ x ∨ y < 0 ∨ 16 ≤ y) : hasP g x y = false := by
  rw [← Bool.not_eq_true, hasP_iff]; omega
end Go.Proofs.Ytbgohbinonkhfaa.Pure

/- Rows of bools that hold a grid: what is made, read and written. -/
namespace Go.Proofs.Ytbgohbinonkhfaa.Q
open Go.RowKit Go.Proofs.YtbgohbinonkhfaaW.PrintWords Go.Proofs.YtbgohbinonkhfaaW.PrintLast Go.Proofs.YtbgohbinonkhfaaW.PrintMore
attribute [local go_sem] max2_int min2_int max_two min_two max_three min_three max_four min_four
set_option linter.unusedVariables false
set_option linter.unusedSimpArgs false
open Go.Proofs.Ytbgohbinonkhfaa.Pure

theorem tabR_cell {W : World} {base g cap : Nat} {ok : Nat → Prop} {f : Nat → Bool} (h : Kd.bool.R 4 W base ok (.slice (some ⟨g, 0, none⟩) 256 cap) (tab f)) (i : Nat) (hi : i < 256) : W.cell? ⟨g, i, none⟩ = some (.bool (f i)) ∧ W.frozen? ⟨g, i, none⟩ = false := by
  have hl := tab_length f
  have h' : Kd.bool.R 4 W base ok (.slice (some ⟨g, 0, none⟩) (tab f).length cap) (tab f) := by rw [hl]; exact h
  have := Kd.R_cell false h' (i : Int) (by omega) (by omega)
  rw [Int.toNat_natCast, tab_get f i hi] at this
  exact this
theorem tabR_put {W : World} {base g cap : Nat} {ok : Nat → Prop} {f : Nat → Bool} (h : Kd.bool.R 4 W base ok (.slice (some ⟨g, 0, none⟩) 256 cap) (tab f)) (i : Nat) (b : Bool) : Kd.bool.R 4 (W.setCell ⟨g, i, none⟩ (.bool b)) base ok (.slice (some ⟨g, 0, none⟩) 256 cap) (tab fun p => if p = i then b else f p) := by
  have hl := tab_length f
  have h' : Kd.bool.R 4 W base ok (.slice (some ⟨g, 0, none⟩) (tab f).length cap) (tab f) := by rw [hl]; exact h
  have := (Kd.R_put h' (i : Int) b).1
  rw [Int.toNat_natCast, tab_set, hl] at this
  exact this
theorem tab_of (l : List Bool) (h : l.length = 256) : l = tab (fun p => l.getD p false) := by
  refine List.ext_getElem (by rw [tab_length]; exact h) (fun j h1 h2 => ?_)
  simp [tab, List.getD_eq_getElem?_getD, List.getElem?_eq_getElem h1]
theorem tabC_at {W : World} {A : Option Addr} {f : Nat → Bool} (h : Kd.bool.C W A 256 (tab f)) : ∃ ad, A = some ad ∧ ∀ i : Int, 0 ≤ i → i < 256 → W.cell? (ad.add i.toNat) = some (.bool (rdT f i)) := by
  obtain ⟨ad, rfl, _⟩ := Kd.at_bool h 0 (by omega) (by omega)
  refine ⟨ad, rfl, fun i h0 h1 => ?_⟩
  obtain ⟨ad', e, hc⟩ := Kd.at_bool h i h0 (by omega)
  cases e
  exact hc
end Go.Proofs.Ytbgohbinonkhfaa.Q

/- spec.spreadFrom: the pixels that are connected with a pixel, as the reference has them. -/
namespace Go.Proofs.Ytbgohbinonkhfaa.Q
open Go.RowKit Go.Proofs.YtbgohbinonkhfaaW.PrintWords Go.Proofs.YtbgohbinonkhfaaW.PrintLast Go.Proofs.YtbgohbinonkhfaaW.PrintMore
attribute [local go_sem] max2_int min2_int max_two min_two max_three min_three max_four min_four
set_option linter.unusedVariables false
set_option linter.unusedSimpArgs false
open Go.Proofs.Ytbgohbinonkhfaa.Pure

noncomputable def spec_spreadFrom.f (l0 : List Bool) (a1 : Int) : Option (List Bool) := if l0.length = 256 ∧ 0 ≤ a1 ∧ a1 < 256 then some (tab (comp (fun p => l0.getD p false) a1.toNat)) else none

theorem inRange_eq' (n a b : Int) : spec_inRange.f n a b = some (decide (a ≤ n) && decide (n ≤ b)) := by
  unfold spec_inRange.f
  by_cases c : a ≤ n
  · rw [if_pos c, decide_eq_true c, Bool.true_and]
  · rw [if_neg c, decide_eq_false c, Bool.false_and]
/-- neighbour d of the pixel in column x and row y, in the reference's order -/
def nbS (x y d : Nat) : Int × Int := match d with
  | 0 => ((x : Int) + 1, (y : Int))
  | 1 => ((x : Int) - 1, (y : Int))
  | 2 => ((x : Int), (y : Int) + 1)
  | _ => ((x : Int), (y : Int) - 1)
def nbListS (x y : Nat) : List (Int × Int) := [nbS x y 0, nbS x y 1, nbS x y 2, nbS x y 3]
theorem nbListS_drop (x y d : Nat) (h : d < 4) : (nbListS x y).drop d = ((nbS x y d).1, (nbS x y d).2) :: (nbListS x y).drop (d + 1) := by
  obtain rfl | rfl | rfl | rfl : d = 0 ∨ d = 1 ∨ d = 2 ∨ d = 3 := by omega
  all_goals rfl
theorem nbS_mem (x y p r : Nat) (hx : x = p % 16) (hy : y = p / 16) (hp : p < 256) (hr : r < 256) (ha : Adj p r) : (((r % 16 : Nat) : Int), ((r / 16 : Nat) : Int)) ∈ nbListS x y := by
  have := adj_nb p r hp hr ha
  unfold nbListS nbS
  simp only [List.mem_cons, Prod.mk.injEq]
  omega
def lenT : Value → Nat
  | .slice _ n _ => n
  | _ => 0
def outT (W : World) (B : Nat) (p : Nat) : Bool := match W.cell? ⟨B, p, none⟩ with
  | some (.bool b) => b
  | _ => false
theorem unseen_outT {W : World} {base B cap : Nat} {ok : Nat → Prop} {o : Nat → Bool} (h : Kd.bool.R 4 W base ok (.slice (some ⟨B, 0, none⟩) 256 cap) (tab o)) : unseen (outT W B) = unseen o := by
  unfold unseen
  refine List.countP_congr (fun p hp => ?_)
  have : outT W B p = o p := by unfold outT; rw [(tabR_cell h p (by simpa using hp)).1]
  rw [this]

set_option maxHeartbeats 12000000 in
set_option maxRecDepth 100000 in
theorem spread_calls (A0 : Option Addr) (c0 : Nat) (g : Nat → Bool) (s : Nat) (hs : s < 256) (w : World) (hr0 : Kd.bool.C w A0 256 (tab g)) (hc0 : 256 ≤ c0) :
    Calls Try.prog 66 #[.slice A0 256 c0, .int .i64 (s : Int)] w fun e w' => ∃ v0_ : Value, e = .returned (v0_) ∧ Kd.bool.R 4 w' w.heap.size (fun _ => True) v0_ (tab (comp g s)) ∧ Below w.heap.size w w' := by
  obtain ⟨ad, rfl, HRD⟩ := tabC_at hr0
  have HR := Aside0.mk hr0
  have HRC := Aside0.mk (fun (W : World) (hb : Below w.heap.size w W) (i : Int) (h0 : 0 ≤ i) (h1 : i < 256) => show W.cell? (ad.add i.toNat) = some (.bool (rdT g i)) from by
    obtain ⟨ad', e, h⟩ := tabC_at (Kd.C_below HR.out hb)
    cases e
    exact h i h0 h1)
  clear hr0 HRD
  go_enter Try.func66, Try.ntmps66
  go_wp2_with (first
    | ((with_reducible refine gate_dst (N := 16) rfl ?_); refine Kd.R_make Kd.bool w.heap.size 4 rfl (N := 16) rfl 81 _ _ rfl 256 rfl rfl Try.underlying81 (.bool false) 1 info4 rfl (by decide) (by omega) false (ok := fun _ => True) (okp := fun _ => True) rfl (fun _ hk => hk) trivial (by omega) (by omega) (Below.refl _ _) (Nat.le_refl _) ?_; intro v1 w1 ho1 hb1 hg1 hn1; clear hg1 hn1; rw [show (256 : Int).toNat = 256 from rfl, tab_false] at ho1; obtain ⟨B, cap, hv1, hBb, hBl, _⟩ := Kd.R_form ho1 (by rw [tab_length]; omega); rw [tab_length] at hv1; subst hv1; have HO1 := Aside0.mk ho1; have HB1 := Aside0.mk hb1; have HBL := Aside0.mk hBb; clear ho1 hb1 hBb hBl)
    | ((with_reducible refine gate_dst (N := 18) rfl ?_); refine Kd.R_lit (Kd.int .i64) w.heap.size 3 ?hg (N := 18) ?hd (xs := [(s : Int)]) (inner := [.int .i64 (s : Int)]) (ok := fun _ => True) (okp := fun _ => True) ?hr ?hp (fun _ hk => hk) trivial HB1.out HB1.out.size (by simp) ?_; (case hd => rfl); (case hg => rfl); (case hr => first | (go_simp; done) | (go_simp; rfl)); (case hp => exact Reps.snoc (Reps.none _ _) rfl rfl); intro v2 w2 ho2 hb2 hg2 hn2; have HS2 := Aside0.mk ho2; have HB2 := Aside0.mk hb2; have HO2 := Aside0.mk (Kd.R_grown HO1.out hg2 (fun _ _ => by simp)); have hcs := (tabR_cell HO2.out s hs).1; have hcf := (tabR_cell HO2.out s hs).2; clear ho2 hb2 hg2 hn2))
  obtain ⟨cc, hcc⟩ := Kd.R_typed HO2.out B rfl
  have HS3 := Aside0.mk (Kd.R_set HS2.out hcc (by decide) s (.bool true))
  have HO3 := Aside0.mk (tabR_put HO2.out s true)
  have HB3 := Aside0.mk (below_set (g := B) (j := s) (v := .bool true) HB2.out HBL.out)
  have hinit : (fun p => if p = s then true else false) = fun q => decide (q = s) := by
    funext p
    by_cases e : p = s
    · rw [if_pos e, decide_eq_true e]
    · rw [if_neg e, decide_eq_false e]
  have HM0 := Aside0.mk (mid_init g s hs)
  rw [← hinit] at HM0
  have HU0 : unseen (fun p => if p = s then true else false) + 1 = 256 := by
    have h := unseen_set (fun _ => false) s hs rfl
    have h2 : unseen (fun _ => false) = 256 := by simp [unseen]
    rw [h2] at h
    exact h
  clear hinit hcc hcs hcf HO2 HS2 HB2 HO1 HB1
  go_loopw [6] (fun v6 W => ∃ (out : Nat → Bool) (st : List Nat) (p0 : Nat), Aside0 (Kd.R (Kd.int .i64) 3 W w.heap.size (fun _ => True) v6 (st.map fun (n : Nat) => (n : Int)) ∧ Kd.bool.R 4 W w.heap.size (fun _ => True) (.slice (some ⟨B, 0, none⟩) 256 cap) (tab out) ∧ Below w.heap.size w W) ∧
    Aside0 (Mid g s out st p0 [] ∧ st.length + unseen out ≤ 256)) (fun v6 W => 2 * unseen (outT W B) + lenT v6)
  case atStart => exact ⟨_, [s], s, ⟨HS3.out, HO3.out, HB3.out⟩, ⟨HM0.out, by simp only [List.length_singleton]; omega⟩⟩
  case round =>
    obtain ⟨out, st, p0, HW, HM⟩ := hrel
    clear HM0 HU0 HS3 HO3 HB3
    obtain ⟨wo, rfl⟩ : ∃ wo : World, wo = wr := ⟨_, rfl⟩
    have HMS := Aside0.mk (unseen_outT HW.out.2.1)
    by_cases hz : st = []
    · subst hz
      have hl := Kd.Q_slice (Kd.Q_of_R HW.out.1)
      obtain ⟨A6, c6, h6, _⟩ := hl
      simp only [List.map_nil, List.length_nil] at h6
      subst h6
      have HE := Aside0.mk (tab_congr (mid_end hs HM.out.1))
      go_wp2
      go_ret
      exact ⟨_, rfl, by rw [← HE.out]; exact HW.out.2.1, HW.out.2.2⟩
    · obtain ⟨st', p, rfl⟩ : ∃ st' p, st = st' ++ [p] := ⟨st.dropLast, st.getLast hz, (List.dropLast_concat_getLast hz).symm⟩
      clear hz
      obtain ⟨g6, c6, h6, hgb, hgl, _⟩ := Kd.R_form HW.out.1 (by simp)
      obtain ⟨m, hm⟩ : ∃ m, m = st'.length := ⟨_, rfl⟩
      have hlen : ((st' ++ [p]).map fun (n : Nat) => (n : Int)).length = m + 1 := by simp [hm]
      rw [hlen] at h6
      subst h6
      have hR6 := HW.out.1
      have hR6' : Kd.R (Kd.int .i64) 3 wo w.heap.size (fun _ => True) (.slice (some ⟨g6, 0, none⟩) ((st' ++ [p]).map fun (n : Nat) => (n : Int)).length c6) ((st' ++ [p]).map fun (n : Nat) => (n : Int)) := by rw [hlen]; exact hR6
      have hcell := (Kd.R_cell (0 : Int) hR6' (m : Int) (by omega) (by rw [hlen]; omega)).1
      have hrd : rdOf (0 : Int) ((st' ++ [p]).map fun (n : Nat) => (n : Int)) (m : Int) = (p : Int) := by
        unfold rdOf
        rw [Int.toNat_natCast, List.getD_eq_getElem?_getD, hm]
        simp
      rw [hrd, Int.toNat_natCast] at hcell
      have hcell' : wo.cell? ⟨g6, m, none⟩ = some (.int .i64 (p : Int)) := hcell
      have HT6 := Aside0.mk (show Kd.R (Kd.int .i64) 3 wo w.heap.size (fun _ => True) (.slice (some ⟨g6, 0, none⟩) m c6) (st'.map fun (n : Nat) => (n : Int)) from by
        have h := Kd.R_take (m := m) hR6' (by rw [hlen]; omega)
        rw [List.map_append, List.take_left' (by simp [hm])] at h
        exact h)
      have hp256 : p < 256 := (HM.out.1.todo_ok p (by simp)).1
      have hmc : m + 1 ≤ c6 := (Kd.R_reads' hR6).2.1
      have hm256 : m < 256 := by have h := HM.out.2; rw [List.length_append, List.length_singleton, ← hm] at h; omega
      have HML := Aside0.mk hm
      clear hcell hrd hR6 hR6' hlen hm
      have hmp : decide ((0 : Int) < ((m + 1 : Nat) : Int)) = true := by simp
      obtain ⟨i0, hi0, _, hsz0, _⟩ := info_parts info3
      have HCUT := Aside0.mk (cut_to (P := Try.prog) 22 3 .i64 Try.underlying22 hi0 (some ⟨g6, 0, none⟩) (m + 1) c6 (m : Int) (by omega) (by omega) hmc)
      clear hi0 hsz0
      obtain ⟨x0, hx0⟩ : ∃ x0 : Nat, x0 = p % 16 := ⟨_, rfl⟩
      obtain ⟨y0, hy0⟩ : ∃ y0 : Nat, y0 = p / 16 := ⟨_, rfl⟩
      have hx16 : x0 < 16 := by omega
      have hy16 : y0 < 16 := by omega
      have HX0 := Aside0.mk (show (p : Int) % 16 = (x0 : Int) by omega)
      have HY0 := Aside0.mk (show (p : Int) / 16 = (y0 : Int) by omega)
      have HPX := Aside0.mk hx0
      have HPY := Aside0.mk hy0
      clear hx0 hy0
      go_wp2_with (first
        | ((with_reducible refine gate_dst (N := 35) rfl ?_); refine Kd.event_run (v := .slice (some ⟨g6, 0, none⟩) m c6) (w1 := wo) rfl ?hr ?_; (case hr => (have hc_ := HCUT.out wo; rw [Int.toNat_natCast] at hc_; simp [execOp, Act.eval, Instr.sliceAt, Result.andThen, hc_]))))
      rw [HX0.out, HY0.out]
      have HM1 := Aside0.mk (show Mid g s out st' p (nbListS x0 y0) from
        mid_pop HM.out.1 (p := p) (by simp) (fun q hq => by rcases List.mem_append.1 hq with h | h; exact .inr h; exact .inl (List.mem_singleton.1 h)) (fun q hq => List.mem_append_left _ hq) (fun r hr ha => nbS_mem x0 y0 p r HPX.out HPY.out hp256 hr ha))
      have HL1 := Aside0.mk (show st'.length + unseen out ≤ 256 ∧ 2 * unseen out + st'.length < 2 * unseen out + (m + 1) from by
        have h := HM.out.2
        have h2 := HML.out
        rw [List.length_append, List.length_singleton] at h
        omega)
      obtain ⟨U, hU⟩ : ∃ U, U = 2 * unseen out + (m + 1) := ⟨_, rfl⟩
      rw [← hU] at HL1
      have HUE := Aside0.mk hU
      clear hU hcell' hmp HCUT
      go_loopw [6, 11] (fun v6 v11 W => ∃ (out' : Nat → Bool) (st2 : List Nat) (d : Nat), v11 = .int .i64 d ∧ d ≤ 4 ∧ Aside0 (Kd.R (Kd.int .i64) 3 W w.heap.size (fun _ => True) v6 (st2.map fun (n : Nat) => (n : Int)) ∧ Kd.bool.R 4 W w.heap.size (fun _ => True) (.slice (some ⟨B, 0, none⟩) 256 cap) (tab out') ∧ Below w.heap.size w W) ∧
        Aside0 (Mid g s out' st2 p ((nbListS x0 y0).drop d) ∧ st2.length + unseen out' ≤ 256 ∧ 2 * unseen out' + st2.length < U)) (fun _ v11 _ => 4 - (intOf v11).toNat)
      case atStart => exact ⟨out, st', 0, rfl, by omega, ⟨HT6.out, HW.out.2.1, HW.out.2.2⟩, ⟨HM1.out, HL1.out.1, HL1.out.2⟩⟩
      case round =>
        obtain ⟨out', st2, d, rfl, hd, HV, HT⟩ := hrel
        obtain ⟨wi, rfl⟩ : ∃ wi : World, wi = wr := ⟨_, rfl⟩
        by_cases h4 : d < 4
        · have hdd : decide ((d : Int) < 4) = true := by simp; omega
          have HDR := Aside0.mk (nbListS_drop x0 y0 d h4)
          obtain rfl | rfl | rfl | rfl : d = 0 ∨ d = 1 ∨ d = 2 ∨ d = 3 := by omega
          all_goals clear h4 hd
          · have HM2 := Aside0.mk (show Mid g s out' st2 p ((((x0 : Int) + 1), (y0 : Int)) :: (nbListS x0 y0).drop (0 + 1)) from by have h := HT.out.1; rw [HDR.out] at h; exact h)
            cases hb : (decide (0 ≤ ((x0 : Int) + 1)) && decide (((x0 : Int) + 1) ≤ 15)) with
            | false =>
              have HI1 := Aside0.mk (fun W => spec_inRange.calls (((x0 : Int) + 1)) 0 15 _ W (inRange_eq' _ _ _))
              rw [hb] at HI1
              have HSK := Aside0.mk (mid_skip HM2.out (.inl (hasP_no g (((x0 : Int) + 1)) ((y0 : Int)) (by simp at hb; omega))))
              clear hb
              go_wp2_with (first
                | (go_at_call 62; (with_reducible refine (HI1.out _).mono ?_); rintro e W1 ⟨rfl, hd1⟩; have HD1 := Aside0.mk hd1.below; clear hd1))
              go_roundw
              case rel => exact ⟨out', st2, 0 + 1, by go_num, by omega, ⟨(Kd.R_below (Kd.R_alloc (Kd.R_alloc HV.out.1 _) _) HD1.out), (Kd.R_below (Kd.R_alloc (Kd.R_alloc HV.out.2.1 _) _) HD1.out), (below_then (below_alloc (below_alloc HV.out.2.2 _) _) (below_alloc (below_alloc HV.out.2.2 _) _).size HD1.out)⟩, ⟨HSK.out, HT.out.2.1, HT.out.2.2⟩⟩
              case measure => simp [intOf]
            | true =>
              have HI1 := Aside0.mk (fun W => spec_inRange.calls (((x0 : Int) + 1)) 0 15 _ W (inRange_eq' _ _ _))
              rw [hb] at HI1
              cases hb2 : (decide (0 ≤ (y0 : Int)) && decide ((y0 : Int) ≤ 15)) with
              | false =>
                exfalso
                simp at hb2
                omega
              | true =>
                have HI2 := Aside0.mk (fun W => spec_inRange.calls ((y0 : Int)) 0 15 _ W (inRange_eq' _ _ _))
                rw [hb2] at HI2
                have hbc : 0 ≤ ((x0 : Int) + 1) ∧ ((x0 : Int) + 1) < 16 ∧ 0 ≤ (y0 : Int) ∧ (y0 : Int) < 16 := by simp at hb hb2; omega
                have HQ := Aside0.mk (show ((y0 : Int)).toNat * 16 + (((x0 : Int) + 1)).toNat = (y0 * 16 + (x0 + 1)) by omega)
                have hq256 : (y0 * 16 + (x0 + 1)) < 256 := by omega
                have HBO := Aside0.mk hbc
                clear hb hb2
                clear hbc
                cases hg : g (y0 * 16 + (x0 + 1)) with
                | false =>
                  have HSK := Aside0.mk (mid_skip HM2.out (.inl (by rw [Bool.eq_false_iff]; intro h; have := ((hasP_iff g _ _).1 h).2.2.2.2; rw [HQ.out, hg] at this; cases this)))
                  go_wp2_with (first
                    | (go_at_call 62; (with_reducible refine (HI1.out _).mono ?_); rintro e W1 ⟨rfl, hd1⟩; have HD1 := Aside0.mk hd1.below; clear hd1)
                    | (go_at_call 62; (with_reducible refine (HI2.out _).mono ?_); rintro e W2 ⟨rfl, hd2⟩; have HD2 := Aside0.mk hd2.below; clear hd2; have hcg := HRC.out W2 (below_then (below_then (below_alloc (below_alloc HV.out.2.2 _) _) (below_alloc (below_alloc HV.out.2.2 _) _).size HD1.out) (below_then (below_alloc (below_alloc HV.out.2.2 _) _) (below_alloc (below_alloc HV.out.2.2 _) _).size HD1.out).size HD2.out) ((((y0 * 16 + (x0 + 1)) : Nat) : Int)) (by omega) (by omega); rw [Int.toNat_natCast, rdT_nat g _ hq256, hg] at hcg))
                  go_roundw
                  case rel => exact ⟨out', st2, 0 + 1, by go_num, by omega, ⟨(Kd.R_below (Kd.R_below (Kd.R_alloc (Kd.R_alloc HV.out.1 _) _) HD1.out) HD2.out), (Kd.R_below (Kd.R_below (Kd.R_alloc (Kd.R_alloc HV.out.2.1 _) _) HD1.out) HD2.out), (below_then (below_then (below_alloc (below_alloc HV.out.2.2 _) _) (below_alloc (below_alloc HV.out.2.2 _) _).size HD1.out) (below_then (below_alloc (below_alloc HV.out.2.2 _) _) (below_alloc (below_alloc HV.out.2.2 _) _).size HD1.out).size HD2.out)⟩, ⟨HSK.out, HT.out.2.1, HT.out.2.2⟩⟩
                  case measure => simp [intOf]
                | true =>
                  cases ho : out' (y0 * 16 + (x0 + 1)) with
                  | true =>
                    have HSK := Aside0.mk (mid_skip HM2.out (.inr (by rw [HQ.out]; exact ho)))
                    go_wp2_with (first
                      | (go_at_call 62; (with_reducible refine (HI1.out _).mono ?_); rintro e W1 ⟨rfl, hd1⟩; have HD1 := Aside0.mk hd1.below; clear hd1)
                      | (go_at_call 62; (with_reducible refine (HI2.out _).mono ?_); rintro e W2 ⟨rfl, hd2⟩; have HD2 := Aside0.mk hd2.below; clear hd2; have hcg := HRC.out W2 (below_then (below_then (below_alloc (below_alloc HV.out.2.2 _) _) (below_alloc (below_alloc HV.out.2.2 _) _).size HD1.out) (below_then (below_alloc (below_alloc HV.out.2.2 _) _) (below_alloc (below_alloc HV.out.2.2 _) _).size HD1.out).size HD2.out) ((((y0 * 16 + (x0 + 1)) : Nat) : Int)) (by omega) (by omega); rw [Int.toNat_natCast, rdT_nat g _ hq256, hg] at hcg; have hco := (tabR_cell (Kd.R_below (Kd.R_below (Kd.R_alloc (Kd.R_alloc HV.out.2.1 _) _) HD1.out) HD2.out) (y0 * 16 + (x0 + 1)) hq256).1; rw [ho] at hco; have hcf := (tabR_cell (Kd.R_below (Kd.R_below (Kd.R_alloc (Kd.R_alloc HV.out.2.1 _) _) HD1.out) HD2.out) (y0 * 16 + (x0 + 1)) hq256).2))
                    go_roundw
                    case rel => exact ⟨out', st2, 0 + 1, by go_num, by omega, ⟨(Kd.R_below (Kd.R_below (Kd.R_alloc (Kd.R_alloc HV.out.1 _) _) HD1.out) HD2.out), (Kd.R_below (Kd.R_below (Kd.R_alloc (Kd.R_alloc HV.out.2.1 _) _) HD1.out) HD2.out), (below_then (below_then (below_alloc (below_alloc HV.out.2.2 _) _) (below_alloc (below_alloc HV.out.2.2 _) _).size HD1.out) (below_then (below_alloc (below_alloc HV.out.2.2 _) _) (below_alloc (below_alloc HV.out.2.2 _) _).size HD1.out).size HD2.out)⟩, ⟨HSK.out, HT.out.2.1, HT.out.2.2⟩⟩
                    case measure => simp [intOf]
                  | false =>
                    have HPU := Aside0.mk (mid_push (todo' := st2 ++ [(y0 * 16 + (x0 + 1))]) HM2.out ((hasP_iff g _ _).2 ⟨HBO.out.1, HBO.out.2.1, HBO.out.2.2.1, HBO.out.2.2.2, by rw [HQ.out]; exact hg⟩) (nb_adj p hp256 _ _ HBO.out.1 HBO.out.2.1 HBO.out.2.2.1 HBO.out.2.2.2 (by have h1 := HPX.out; have h2 := HPY.out; omega)) (fun q hq => by rw [HQ.out]; rcases List.mem_append.1 hq with h | h; exact .inr h; exact .inl (List.mem_singleton.1 h)) (fun q hq => List.mem_append_left _ hq) (by rw [HQ.out]; simp))
                    rw [HQ.out] at HPU
                    have HUN := Aside0.mk (unseen_set out' (y0 * 16 + (x0 + 1)) hq256 ho)
                    have HXI := Aside0.mk (show ((y0 : Int) * 16 + ((x0 : Int) + 1)) = (((y0 * 16 + (x0 + 1)) : Nat) : Int) by omega)
                    go_wp2_with (first
                      | (go_at_call 62; (with_reducible refine (HI1.out _).mono ?_); rintro e W1 ⟨rfl, hd1⟩; have HD1 := Aside0.mk hd1.below; clear hd1)
                      | (go_at_call 62; (with_reducible refine (HI2.out _).mono ?_); rintro e W2 ⟨rfl, hd2⟩; have HD2 := Aside0.mk hd2.below; clear hd2; have hcg := HRC.out W2 (below_then (below_then (below_alloc (below_alloc HV.out.2.2 _) _) (below_alloc (below_alloc HV.out.2.2 _) _).size HD1.out) (below_then (below_alloc (below_alloc HV.out.2.2 _) _) (below_alloc (below_alloc HV.out.2.2 _) _).size HD1.out).size HD2.out) ((((y0 * 16 + (x0 + 1)) : Nat) : Int)) (by omega) (by omega); rw [Int.toNat_natCast, rdT_nat g _ hq256, hg] at hcg; have hco := (tabR_cell (Kd.R_below (Kd.R_below (Kd.R_alloc (Kd.R_alloc HV.out.2.1 _) _) HD1.out) HD2.out) (y0 * 16 + (x0 + 1)) hq256).1; rw [ho] at hco; have hcf := (tabR_cell (Kd.R_below (Kd.R_below (Kd.R_alloc (Kd.R_alloc HV.out.2.1 _) _) HD1.out) HD2.out) (y0 * 16 + (x0 + 1)) hq256).2; obtain ⟨cc2, hcc2⟩ := Kd.R_typed (Kd.R_below (Kd.R_below (Kd.R_alloc (Kd.R_alloc HV.out.2.1 _) _) HD1.out) HD2.out) B rfl; have HS3 := Aside0.mk (Kd.R_set (Kd.R_below (Kd.R_below (Kd.R_alloc (Kd.R_alloc HV.out.1 _) _) HD1.out) HD2.out) hcc2 (by decide) (y0 * 16 + (x0 + 1)) (.bool true)); have HO3 := Aside0.mk (tabR_put (Kd.R_below (Kd.R_below (Kd.R_alloc (Kd.R_alloc HV.out.2.1 _) _) HD1.out) HD2.out) (y0 * 16 + (x0 + 1)) true); have HB3 := Aside0.mk (below_set (g := B) (j := (y0 * 16 + (x0 + 1))) (v := .bool true) (below_then (below_then (below_alloc (below_alloc HV.out.2.2 _) _) (below_alloc (below_alloc HV.out.2.2 _) _).size HD1.out) (below_then (below_alloc (below_alloc HV.out.2.2 _) _) (below_alloc (below_alloc HV.out.2.2 _) _).size HD1.out).size HD2.out) HBL.out); clear hcc2)
                      | ((with_reducible refine gate_builtin (b := .append) (xs := #[.tmp 96, .tmp 102]) rfl ?_); at_builtin; refine Kd.R_append (Kd.int .i64) (w0 := w) w.heap.size rfl (.tmp 96) (.tmp 102) 22 3 (.int .i64 0) 8 rfl Try.underlying22 info3 rfl (by decide) (by omega) u6 (st2.map fun (n : Nat) => (n : Int)) ((y0 : Int) * 16 + ((x0 : Int) + 1)) [.int .i64 ((y0 : Int) * 16 + ((x0 : Int) + 1))] (fun _ => True) (fun _ => False) rfl ?aX ?aP (fun _ hk => hk.elim) (fun _ _ => trivial) HS3.out HB3.out HB3.out.size ?aL ?_; (case aX => first | rfl | (go_simp; done) | (simp; done) | (go_simp; rfl)); (case aP => rfl); (case aL => (have hl_ := HT.out.2.1; rw [List.length_map]; omega)); intro v7 W7 ho7 hb7 hg7 hat7; have HS7 := Aside0.mk ho7; have HB7 := Aside0.mk hb7; have HO7 := Aside0.mk (Kd.R_over HO3.out HS3.out (by decide) hg7); clear ho7 hb7 hg7 hat7))
                    go_roundw
                    case rel =>
                      refine ⟨fun p => if p = (y0 * 16 + (x0 + 1)) then true else out' p, st2 ++ [(y0 * 16 + (x0 + 1))], 0 + 1, by go_num, by omega, ⟨by have h := HS7.out; rw [HXI.out] at h; rw [List.map_append]; exact h, HO7.out, HB7.out⟩, ⟨HPU.out, ?_, ?_⟩⟩
                      · have h1 := HUN.out
                        have h2 := HT.out.2.1
                        rw [List.length_append, List.length_singleton]
                        omega
                      · have h1 := HUN.out
                        have h2 := HT.out.2.2
                        rw [List.length_append, List.length_singleton]
                        omega
                    case measure => simp [intOf]
          · have HM2 := Aside0.mk (show Mid g s out' st2 p ((((x0 : Int) - 1), (y0 : Int)) :: (nbListS x0 y0).drop (1 + 1)) from by have h := HT.out.1; rw [HDR.out] at h; exact h)
            cases hb : (decide (0 ≤ ((x0 : Int) + -1)) && decide (((x0 : Int) + -1) ≤ 15)) with
            | false =>
              have HI1 := Aside0.mk (fun W => spec_inRange.calls (((x0 : Int) + -1)) 0 15 _ W (inRange_eq' _ _ _))
              rw [hb] at HI1
              have HSK := Aside0.mk (mid_skip HM2.out (.inl (hasP_no g (((x0 : Int) - 1)) ((y0 : Int)) (by simp at hb; omega))))
              clear hb
              go_wp2_with (first
                | (go_at_call 62; (with_reducible refine (HI1.out _).mono ?_); rintro e W1 ⟨rfl, hd1⟩; have HD1 := Aside0.mk hd1.below; clear hd1))
              go_roundw
              case rel => exact ⟨out', st2, 1 + 1, by go_num, by omega, ⟨(Kd.R_below (Kd.R_alloc (Kd.R_alloc HV.out.1 _) _) HD1.out), (Kd.R_below (Kd.R_alloc (Kd.R_alloc HV.out.2.1 _) _) HD1.out), (below_then (below_alloc (below_alloc HV.out.2.2 _) _) (below_alloc (below_alloc HV.out.2.2 _) _).size HD1.out)⟩, ⟨HSK.out, HT.out.2.1, HT.out.2.2⟩⟩
              case measure => simp [intOf]
            | true =>
              have HI1 := Aside0.mk (fun W => spec_inRange.calls (((x0 : Int) + -1)) 0 15 _ W (inRange_eq' _ _ _))
              rw [hb] at HI1
              cases hb2 : (decide (0 ≤ (y0 : Int)) && decide ((y0 : Int) ≤ 15)) with
              | false =>
                exfalso
                simp at hb2
                omega
              | true =>
                have HI2 := Aside0.mk (fun W => spec_inRange.calls ((y0 : Int)) 0 15 _ W (inRange_eq' _ _ _))
                rw [hb2] at HI2
                have hbc : 0 ≤ ((x0 : Int) - 1) ∧ ((x0 : Int) - 1) < 16 ∧ 0 ≤ (y0 : Int) ∧ (y0 : Int) < 16 := by simp at hb hb2; omega
                have HQ := Aside0.mk (show ((y0 : Int)).toNat * 16 + (((x0 : Int) - 1)).toNat = ((y0 : Int) * 16 + ((x0 : Int) + -1)).toNat by omega)
                have hq256 : ((y0 : Int) * 16 + ((x0 : Int) + -1)).toNat < 256 := by omega
                have HBO := Aside0.mk hbc
                clear hb hb2
                have hx1 : 1 ≤ x0 := by omega
                clear hbc
                cases hg : g ((y0 : Int) * 16 + ((x0 : Int) + -1)).toNat with
                | false =>
                  have HSK := Aside0.mk (mid_skip HM2.out (.inl (by rw [Bool.eq_false_iff]; intro h; have := ((hasP_iff g _ _).1 h).2.2.2.2; rw [HQ.out, hg] at this; cases this)))
                  go_wp2_with (first
                    | (go_at_call 62; (with_reducible refine (HI1.out _).mono ?_); rintro e W1 ⟨rfl, hd1⟩; have HD1 := Aside0.mk hd1.below; clear hd1)
                    | (go_at_call 62; (with_reducible refine (HI2.out _).mono ?_); rintro e W2 ⟨rfl, hd2⟩; have HD2 := Aside0.mk hd2.below; clear hd2; have hcg := HRC.out W2 (below_then (below_then (below_alloc (below_alloc HV.out.2.2 _) _) (below_alloc (below_alloc HV.out.2.2 _) _).size HD1.out) (below_then (below_alloc (below_alloc HV.out.2.2 _) _) (below_alloc (below_alloc HV.out.2.2 _) _).size HD1.out).size HD2.out) (((((y0 : Int) * 16 + ((x0 : Int) + -1)).toNat : Nat) : Int)) (by omega) (by omega); rw [Int.toNat_natCast, rdT_nat g _ hq256, hg] at hcg))
                  go_roundw
                  case rel => exact ⟨out', st2, 1 + 1, by go_num, by omega, ⟨(Kd.R_below (Kd.R_below (Kd.R_alloc (Kd.R_alloc HV.out.1 _) _) HD1.out) HD2.out), (Kd.R_below (Kd.R_below (Kd.R_alloc (Kd.R_alloc HV.out.2.1 _) _) HD1.out) HD2.out), (below_then (below_then (below_alloc (below_alloc HV.out.2.2 _) _) (below_alloc (below_alloc HV.out.2.2 _) _).size HD1.out) (below_then (below_alloc (below_alloc HV.out.2.2 _) _) (below_alloc (below_alloc HV.out.2.2 _) _).size HD1.out).size HD2.out)⟩, ⟨HSK.out, HT.out.2.1, HT.out.2.2⟩⟩
                  case measure => simp [intOf]
                | true =>
                  cases ho : out' ((y0 : Int) * 16 + ((x0 : Int) + -1)).toNat with
                  | true =>
                    have HSK := Aside0.mk (mid_skip HM2.out (.inr (by rw [HQ.out]; exact ho)))
                    go_wp2_with (first
                      | (go_at_call 62; (with_reducible refine (HI1.out _).mono ?_); rintro e W1 ⟨rfl, hd1⟩; have HD1 := Aside0.mk hd1.below; clear hd1)
                      | (go_at_call 62; (with_reducible refine (HI2.out _).mono ?_); rintro e W2 ⟨rfl, hd2⟩; have HD2 := Aside0.mk hd2.below; clear hd2; have hcg := HRC.out W2 (below_then (below_then (below_alloc (below_alloc HV.out.2.2 _) _) (below_alloc (below_alloc HV.out.2.2 _) _).size HD1.out) (below_then (below_alloc (below_alloc HV.out.2.2 _) _) (below_alloc (below_alloc HV.out.2.2 _) _).size HD1.out).size HD2.out) (((((y0 : Int) * 16 + ((x0 : Int) + -1)).toNat : Nat) : Int)) (by omega) (by omega); rw [Int.toNat_natCast, rdT_nat g _ hq256, hg] at hcg; have hco := (tabR_cell (Kd.R_below (Kd.R_below (Kd.R_alloc (Kd.R_alloc HV.out.2.1 _) _) HD1.out) HD2.out) ((y0 : Int) * 16 + ((x0 : Int) + -1)).toNat hq256).1; rw [ho] at hco; have hcf := (tabR_cell (Kd.R_below (Kd.R_below (Kd.R_alloc (Kd.R_alloc HV.out.2.1 _) _) HD1.out) HD2.out) ((y0 : Int) * 16 + ((x0 : Int) + -1)).toNat hq256).2))
                    go_roundw
                    case rel => exact ⟨out', st2, 1 + 1, by go_num, by omega, ⟨(Kd.R_below (Kd.R_below (Kd.R_alloc (Kd.R_alloc HV.out.1 _) _) HD1.out) HD2.out), (Kd.R_below (Kd.R_below (Kd.R_alloc (Kd.R_alloc HV.out.2.1 _) _) HD1.out) HD2.out), (below_then (below_then (below_alloc (below_alloc HV.out.2.2 _) _) (below_alloc (below_alloc HV.out.2.2 _) _).size HD1.out) (below_then (below_alloc (below_alloc HV.out.2.2 _) _) (below_alloc (below_alloc HV.out.2.2 _) _).size HD1.out).size HD2.out)⟩, ⟨HSK.out, HT.out.2.1, HT.out.2.2⟩⟩
                    case measure => simp [intOf]
                  | false =>
                    have HPU := Aside0.mk (mid_push (todo' := st2 ++ [((y0 : Int) * 16 + ((x0 : Int) + -1)).toNat]) HM2.out ((hasP_iff g _ _).2 ⟨HBO.out.1, HBO.out.2.1, HBO.out.2.2.1, HBO.out.2.2.2, by rw [HQ.out]; exact hg⟩) (nb_adj p hp256 _ _ HBO.out.1 HBO.out.2.1 HBO.out.2.2.1 HBO.out.2.2.2 (by have h1 := HPX.out; have h2 := HPY.out; omega)) (fun q hq => by rw [HQ.out]; rcases List.mem_append.1 hq with h | h; exact .inr h; exact .inl (List.mem_singleton.1 h)) (fun q hq => List.mem_append_left _ hq) (by rw [HQ.out]; simp))
                    rw [HQ.out] at HPU
                    have HUN := Aside0.mk (unseen_set out' ((y0 : Int) * 16 + ((x0 : Int) + -1)).toNat hq256 ho)
                    have HXI := Aside0.mk (show ((y0 : Int) * 16 + ((x0 : Int) + -1)) = ((((y0 : Int) * 16 + ((x0 : Int) + -1)).toNat : Nat) : Int) by omega)
                    go_wp2_with (first
                      | (go_at_call 62; (with_reducible refine (HI1.out _).mono ?_); rintro e W1 ⟨rfl, hd1⟩; have HD1 := Aside0.mk hd1.below; clear hd1)
                      | (go_at_call 62; (with_reducible refine (HI2.out _).mono ?_); rintro e W2 ⟨rfl, hd2⟩; have HD2 := Aside0.mk hd2.below; clear hd2; have hcg := HRC.out W2 (below_then (below_then (below_alloc (below_alloc HV.out.2.2 _) _) (below_alloc (below_alloc HV.out.2.2 _) _).size HD1.out) (below_then (below_alloc (below_alloc HV.out.2.2 _) _) (below_alloc (below_alloc HV.out.2.2 _) _).size HD1.out).size HD2.out) (((((y0 : Int) * 16 + ((x0 : Int) + -1)).toNat : Nat) : Int)) (by omega) (by omega); rw [Int.toNat_natCast, rdT_nat g _ hq256, hg] at hcg; have hco := (tabR_cell (Kd.R_below (Kd.R_below (Kd.R_alloc (Kd.R_alloc HV.out.2.1 _) _) HD1.out) HD2.out) ((y0 : Int) * 16 + ((x0 : Int) + -1)).toNat hq256).1; rw [ho] at hco; have hcf := (tabR_cell (Kd.R_below (Kd.R_below (Kd.R_alloc (Kd.R_alloc HV.out.2.1 _) _) HD1.out) HD2.out) ((y0 : Int) * 16 + ((x0 : Int) + -1)).toNat hq256).2; obtain ⟨cc2, hcc2⟩ := Kd.R_typed (Kd.R_below (Kd.R_below (Kd.R_alloc (Kd.R_alloc HV.out.2.1 _) _) HD1.out) HD2.out) B rfl; have HS3 := Aside0.mk (Kd.R_set (Kd.R_below (Kd.R_below (Kd.R_alloc (Kd.R_alloc HV.out.1 _) _) HD1.out) HD2.out) hcc2 (by decide) ((y0 : Int) * 16 + ((x0 : Int) + -1)).toNat (.bool true)); have HO3 := Aside0.mk (tabR_put (Kd.R_below (Kd.R_below (Kd.R_alloc (Kd.R_alloc HV.out.2.1 _) _) HD1.out) HD2.out) ((y0 : Int) * 16 + ((x0 : Int) + -1)).toNat true); have HB3 := Aside0.mk (below_set (g := B) (j := ((y0 : Int) * 16 + ((x0 : Int) + -1)).toNat) (v := .bool true) (below_then (below_then (below_alloc (below_alloc HV.out.2.2 _) _) (below_alloc (below_alloc HV.out.2.2 _) _).size HD1.out) (below_then (below_alloc (below_alloc HV.out.2.2 _) _) (below_alloc (below_alloc HV.out.2.2 _) _).size HD1.out).size HD2.out) HBL.out); clear hcc2)
                      | ((with_reducible refine gate_builtin (b := .append) (xs := #[.tmp 96, .tmp 102]) rfl ?_); at_builtin; refine Kd.R_append (Kd.int .i64) (w0 := w) w.heap.size rfl (.tmp 96) (.tmp 102) 22 3 (.int .i64 0) 8 rfl Try.underlying22 info3 rfl (by decide) (by omega) u6 (st2.map fun (n : Nat) => (n : Int)) ((y0 : Int) * 16 + ((x0 : Int) + -1)) [.int .i64 ((y0 : Int) * 16 + ((x0 : Int) + -1))] (fun _ => True) (fun _ => False) rfl ?aX ?aP (fun _ hk => hk.elim) (fun _ _ => trivial) HS3.out HB3.out HB3.out.size ?aL ?_; (case aX => first | rfl | (go_simp; done) | (simp; done) | (go_simp; rfl)); (case aP => rfl); (case aL => (have hl_ := HT.out.2.1; rw [List.length_map]; omega)); intro v7 W7 ho7 hb7 hg7 hat7; have HS7 := Aside0.mk ho7; have HB7 := Aside0.mk hb7; have HO7 := Aside0.mk (Kd.R_over HO3.out HS3.out (by decide) hg7); clear ho7 hb7 hg7 hat7))
                    go_roundw
                    case rel =>
                      refine ⟨fun p => if p = ((y0 : Int) * 16 + ((x0 : Int) + -1)).toNat then true else out' p, st2 ++ [((y0 : Int) * 16 + ((x0 : Int) + -1)).toNat], 1 + 1, by go_num, by omega, ⟨by have h := HS7.out; rw [HXI.out] at h; rw [List.map_append]; exact h, HO7.out, HB7.out⟩, ⟨HPU.out, ?_, ?_⟩⟩
                      · have h1 := HUN.out
                        have h2 := HT.out.2.1
                        rw [List.length_append, List.length_singleton]
                        omega
                      · have h1 := HUN.out
                        have h2 := HT.out.2.2
                        rw [List.length_append, List.length_singleton]
                        omega
                    case measure => simp [intOf]
          · have HM2 := Aside0.mk (show Mid g s out' st2 p (((x0 : Int), ((y0 : Int) + 1)) :: (nbListS x0 y0).drop (2 + 1)) from by have h := HT.out.1; rw [HDR.out] at h; exact h)
            cases hb : (decide (0 ≤ (x0 : Int)) && decide ((x0 : Int) ≤ 15)) with
            | false =>
              exfalso
              simp at hb
              omega
            | true =>
              have HI1 := Aside0.mk (fun W => spec_inRange.calls ((x0 : Int)) 0 15 _ W (inRange_eq' _ _ _))
              rw [hb] at HI1
              cases hb2 : (decide (0 ≤ ((y0 : Int) + 1)) && decide (((y0 : Int) + 1) ≤ 15)) with
              | false =>
                have HI2 := Aside0.mk (fun W => spec_inRange.calls (((y0 : Int) + 1)) 0 15 _ W (inRange_eq' _ _ _))
                rw [hb2] at HI2
                have HSK := Aside0.mk (mid_skip HM2.out (.inl (hasP_no g ((x0 : Int)) (((y0 : Int) + 1)) (by simp at hb2; omega))))
                clear hb hb2
                go_wp2_with (first
                  | (go_at_call 62; (with_reducible refine (HI1.out _).mono ?_); rintro e W1 ⟨rfl, hd1⟩; have HD1 := Aside0.mk hd1.below; clear hd1)
                  | (go_at_call 62; (with_reducible refine (HI2.out _).mono ?_); rintro e W2 ⟨rfl, hd2⟩; have HD2 := Aside0.mk hd2.below; clear hd2))
                go_roundw
                case rel => exact ⟨out', st2, 2 + 1, by go_num, by omega, ⟨(Kd.R_below (Kd.R_below (Kd.R_alloc (Kd.R_alloc HV.out.1 _) _) HD1.out) HD2.out), (Kd.R_below (Kd.R_below (Kd.R_alloc (Kd.R_alloc HV.out.2.1 _) _) HD1.out) HD2.out), (below_then (below_then (below_alloc (below_alloc HV.out.2.2 _) _) (below_alloc (below_alloc HV.out.2.2 _) _).size HD1.out) (below_then (below_alloc (below_alloc HV.out.2.2 _) _) (below_alloc (below_alloc HV.out.2.2 _) _).size HD1.out).size HD2.out)⟩, ⟨HSK.out, HT.out.2.1, HT.out.2.2⟩⟩
                case measure => simp [intOf]
              | true =>
                have HI2 := Aside0.mk (fun W => spec_inRange.calls (((y0 : Int) + 1)) 0 15 _ W (inRange_eq' _ _ _))
                rw [hb2] at HI2
                have hbc : 0 ≤ (x0 : Int) ∧ (x0 : Int) < 16 ∧ 0 ≤ ((y0 : Int) + 1) ∧ ((y0 : Int) + 1) < 16 := by simp at hb hb2; omega
                have HQ := Aside0.mk (show (((y0 : Int) + 1)).toNat * 16 + ((x0 : Int)).toNat = ((y0 + 1) * 16 + x0) by omega)
                have hq256 : ((y0 + 1) * 16 + x0) < 256 := by omega
                have HBO := Aside0.mk hbc
                clear hb hb2
                clear hbc
                cases hg : g ((y0 + 1) * 16 + x0) with
                | false =>
                  have HSK := Aside0.mk (mid_skip HM2.out (.inl (by rw [Bool.eq_false_iff]; intro h; have := ((hasP_iff g _ _).1 h).2.2.2.2; rw [HQ.out, hg] at this; cases this)))
                  go_wp2_with (first
                    | (go_at_call 62; (with_reducible refine (HI1.out _).mono ?_); rintro e W1 ⟨rfl, hd1⟩; have HD1 := Aside0.mk hd1.below; clear hd1)
                    | (go_at_call 62; (with_reducible refine (HI2.out _).mono ?_); rintro e W2 ⟨rfl, hd2⟩; have HD2 := Aside0.mk hd2.below; clear hd2; have hcg := HRC.out W2 (below_then (below_then (below_alloc (below_alloc HV.out.2.2 _) _) (below_alloc (below_alloc HV.out.2.2 _) _).size HD1.out) (below_then (below_alloc (below_alloc HV.out.2.2 _) _) (below_alloc (below_alloc HV.out.2.2 _) _).size HD1.out).size HD2.out) (((((y0 + 1) * 16 + x0) : Nat) : Int)) (by omega) (by omega); rw [Int.toNat_natCast, rdT_nat g _ hq256, hg] at hcg))
                  go_roundw
                  case rel => exact ⟨out', st2, 2 + 1, by go_num, by omega, ⟨(Kd.R_below (Kd.R_below (Kd.R_alloc (Kd.R_alloc HV.out.1 _) _) HD1.out) HD2.out), (Kd.R_below (Kd.R_below (Kd.R_alloc (Kd.R_alloc HV.out.2.1 _) _) HD1.out) HD2.out), (below_then (below_then (below_alloc (below_alloc HV.out.2.2 _) _) (below_alloc (below_alloc HV.out.2.2 _) _).size HD1.out) (below_then (below_alloc (below_alloc HV.out.2.2 _) _) (below_alloc (below_alloc HV.out.2.2 _) _).size HD1.out).size HD2.out)⟩, ⟨HSK.out, HT.out.2.1, HT.out.2.2⟩⟩
                  case measure => simp [intOf]
                | true =>
                  cases ho : out' ((y0 + 1) * 16 + x0) with
                  | true =>
                    have HSK := Aside0.mk (mid_skip HM2.out (.inr (by rw [HQ.out]; exact ho)))
                    go_wp2_with (first
                      | (go_at_call 62; (with_reducible refine (HI1.out _).mono ?_); rintro e W1 ⟨rfl, hd1⟩; have HD1 := Aside0.mk hd1.below; clear hd1)
                      | (go_at_call 62; (with_reducible refine (HI2.out _).mono ?_); rintro e W2 ⟨rfl, hd2⟩; have HD2 := Aside0.mk hd2.below; clear hd2; have hcg := HRC.out W2 (below_then (below_then (below_alloc (below_alloc HV.out.2.2 _) _) (below_alloc (below_alloc HV.out.2.2 _) _).size HD1.out) (below_then (below_alloc (below_alloc HV.out.2.2 _) _) (below_alloc (below_alloc HV.out.2.2 _) _).size HD1.out).size HD2.out) (((((y0 + 1) * 16 + x0) : Nat) : Int)) (by omega) (by omega); rw [Int.toNat_natCast, rdT_nat g _ hq256, hg] at hcg; have hco := (tabR_cell (Kd.R_below (Kd.R_below (Kd.R_alloc (Kd.R_alloc HV.out.2.1 _) _) HD1.out) HD2.out) ((y0 + 1) * 16 + x0) hq256).1; rw [ho] at hco; have hcf := (tabR_cell (Kd.R_below (Kd.R_below (Kd.R_alloc (Kd.R_alloc HV.out.2.1 _) _) HD1.out) HD2.out) ((y0 + 1) * 16 + x0) hq256).2))
                    go_roundw
                    case rel => exact ⟨out', st2, 2 + 1, by go_num, by omega, ⟨(Kd.R_below (Kd.R_below (Kd.R_alloc (Kd.R_alloc HV.out.1 _) _) HD1.out) HD2.out), (Kd.R_below (Kd.R_below (Kd.R_alloc (Kd.R_alloc HV.out.2.1 _) _) HD1.out) HD2.out), (below_then (below_then (below_alloc (below_alloc HV.out.2.2 _) _) (below_alloc (below_alloc HV.out.2.2 _) _).size HD1.out) (below_then (below_alloc (below_alloc HV.out.2.2 _) _) (below_alloc (below_alloc HV.out.2.2 _) _).size HD1.out).size HD2.out)⟩, ⟨HSK.out, HT.out.2.1, HT.out.2.2⟩⟩
                    case measure => simp [intOf]
                  | false =>
                    have HPU := Aside0.mk (mid_push (todo' := st2 ++ [((y0 + 1) * 16 + x0)]) HM2.out ((hasP_iff g _ _).2 ⟨HBO.out.1, HBO.out.2.1, HBO.out.2.2.1, HBO.out.2.2.2, by rw [HQ.out]; exact hg⟩) (nb_adj p hp256 _ _ HBO.out.1 HBO.out.2.1 HBO.out.2.2.1 HBO.out.2.2.2 (by have h1 := HPX.out; have h2 := HPY.out; omega)) (fun q hq => by rw [HQ.out]; rcases List.mem_append.1 hq with h | h; exact .inr h; exact .inl (List.mem_singleton.1 h)) (fun q hq => List.mem_append_left _ hq) (by rw [HQ.out]; simp))
                    rw [HQ.out] at HPU
                    have HUN := Aside0.mk (unseen_set out' ((y0 + 1) * 16 + x0) hq256 ho)
                    have HXI := Aside0.mk (show (((y0 : Int) + 1) * 16 + (x0 : Int)) = ((((y0 + 1) * 16 + x0) : Nat) : Int) by omega)
                    go_wp2_with (first
                      | (go_at_call 62; (with_reducible refine (HI1.out _).mono ?_); rintro e W1 ⟨rfl, hd1⟩; have HD1 := Aside0.mk hd1.below; clear hd1)
                      | (go_at_call 62; (with_reducible refine (HI2.out _).mono ?_); rintro e W2 ⟨rfl, hd2⟩; have HD2 := Aside0.mk hd2.below; clear hd2; have hcg := HRC.out W2 (below_then (below_then (below_alloc (below_alloc HV.out.2.2 _) _) (below_alloc (below_alloc HV.out.2.2 _) _).size HD1.out) (below_then (below_alloc (below_alloc HV.out.2.2 _) _) (below_alloc (below_alloc HV.out.2.2 _) _).size HD1.out).size HD2.out) (((((y0 + 1) * 16 + x0) : Nat) : Int)) (by omega) (by omega); rw [Int.toNat_natCast, rdT_nat g _ hq256, hg] at hcg; have hco := (tabR_cell (Kd.R_below (Kd.R_below (Kd.R_alloc (Kd.R_alloc HV.out.2.1 _) _) HD1.out) HD2.out) ((y0 + 1) * 16 + x0) hq256).1; rw [ho] at hco; have hcf := (tabR_cell (Kd.R_below (Kd.R_below (Kd.R_alloc (Kd.R_alloc HV.out.2.1 _) _) HD1.out) HD2.out) ((y0 + 1) * 16 + x0) hq256).2; obtain ⟨cc2, hcc2⟩ := Kd.R_typed (Kd.R_below (Kd.R_below (Kd.R_alloc (Kd.R_alloc HV.out.2.1 _) _) HD1.out) HD2.out) B rfl; have HS3 := Aside0.mk (Kd.R_set (Kd.R_below (Kd.R_below (Kd.R_alloc (Kd.R_alloc HV.out.1 _) _) HD1.out) HD2.out) hcc2 (by decide) ((y0 + 1) * 16 + x0) (.bool true)); have HO3 := Aside0.mk (tabR_put (Kd.R_below (Kd.R_below (Kd.R_alloc (Kd.R_alloc HV.out.2.1 _) _) HD1.out) HD2.out) ((y0 + 1) * 16 + x0) true); have HB3 := Aside0.mk (below_set (g := B) (j := ((y0 + 1) * 16 + x0)) (v := .bool true) (below_then (below_then (below_alloc (below_alloc HV.out.2.2 _) _) (below_alloc (below_alloc HV.out.2.2 _) _).size HD1.out) (below_then (below_alloc (below_alloc HV.out.2.2 _) _) (below_alloc (below_alloc HV.out.2.2 _) _).size HD1.out).size HD2.out) HBL.out); clear hcc2)
                      | ((with_reducible refine gate_builtin (b := .append) (xs := #[.tmp 96, .tmp 102]) rfl ?_); at_builtin; refine Kd.R_append (Kd.int .i64) (w0 := w) w.heap.size rfl (.tmp 96) (.tmp 102) 22 3 (.int .i64 0) 8 rfl Try.underlying22 info3 rfl (by decide) (by omega) u6 (st2.map fun (n : Nat) => (n : Int)) (((y0 : Int) + 1) * 16 + (x0 : Int)) [.int .i64 (((y0 : Int) + 1) * 16 + (x0 : Int))] (fun _ => True) (fun _ => False) rfl ?aX ?aP (fun _ hk => hk.elim) (fun _ _ => trivial) HS3.out HB3.out HB3.out.size ?aL ?_; (case aX => first | rfl | (go_simp; done) | (simp; done) | (go_simp; rfl)); (case aP => rfl); (case aL => (have hl_ := HT.out.2.1; rw [List.length_map]; omega)); intro v7 W7 ho7 hb7 hg7 hat7; have HS7 := Aside0.mk ho7; have HB7 := Aside0.mk hb7; have HO7 := Aside0.mk (Kd.R_over HO3.out HS3.out (by decide) hg7); clear ho7 hb7 hg7 hat7))
                    go_roundw
                    case rel =>
                      refine ⟨fun p => if p = ((y0 + 1) * 16 + x0) then true else out' p, st2 ++ [((y0 + 1) * 16 + x0)], 2 + 1, by go_num, by omega, ⟨by have h := HS7.out; rw [HXI.out] at h; rw [List.map_append]; exact h, HO7.out, HB7.out⟩, ⟨HPU.out, ?_, ?_⟩⟩
                      · have h1 := HUN.out
                        have h2 := HT.out.2.1
                        rw [List.length_append, List.length_singleton]
                        omega
                      · have h1 := HUN.out
                        have h2 := HT.out.2.2
                        rw [List.length_append, List.length_singleton]
                        omega
                    case measure => simp [intOf]
          · have HM2 := Aside0.mk (show Mid g s out' st2 p (((x0 : Int), ((y0 : Int) - 1)) :: (nbListS x0 y0).drop (3 + 1)) from by have h := HT.out.1; rw [HDR.out] at h; exact h)
            cases hb : (decide (0 ≤ (x0 : Int)) && decide ((x0 : Int) ≤ 15)) with
            | false =>
              exfalso
              simp at hb
              omega
            | true =>
              have HI1 := Aside0.mk (fun W => spec_inRange.calls ((x0 : Int)) 0 15 _ W (inRange_eq' _ _ _))
              rw [hb] at HI1
              cases hb2 : (decide (0 ≤ ((y0 : Int) + -1)) && decide (((y0 : Int) + -1) ≤ 15)) with
              | false =>
                have HI2 := Aside0.mk (fun W => spec_inRange.calls (((y0 : Int) + -1)) 0 15 _ W (inRange_eq' _ _ _))
                rw [hb2] at HI2
                have HSK := Aside0.mk (mid_skip HM2.out (.inl (hasP_no g ((x0 : Int)) (((y0 : Int) - 1)) (by simp at hb2; omega))))
                clear hb hb2
                go_wp2_with (first
                  | (go_at_call 62; (with_reducible refine (HI1.out _).mono ?_); rintro e W1 ⟨rfl, hd1⟩; have HD1 := Aside0.mk hd1.below; clear hd1)
                  | (go_at_call 62; (with_reducible refine (HI2.out _).mono ?_); rintro e W2 ⟨rfl, hd2⟩; have HD2 := Aside0.mk hd2.below; clear hd2))
                go_roundw
                case rel => exact ⟨out', st2, 3 + 1, by go_num, by omega, ⟨(Kd.R_below (Kd.R_below (Kd.R_alloc (Kd.R_alloc HV.out.1 _) _) HD1.out) HD2.out), (Kd.R_below (Kd.R_below (Kd.R_alloc (Kd.R_alloc HV.out.2.1 _) _) HD1.out) HD2.out), (below_then (below_then (below_alloc (below_alloc HV.out.2.2 _) _) (below_alloc (below_alloc HV.out.2.2 _) _).size HD1.out) (below_then (below_alloc (below_alloc HV.out.2.2 _) _) (below_alloc (below_alloc HV.out.2.2 _) _).size HD1.out).size HD2.out)⟩, ⟨HSK.out, HT.out.2.1, HT.out.2.2⟩⟩
                case measure => simp [intOf]
              | true =>
                have HI2 := Aside0.mk (fun W => spec_inRange.calls (((y0 : Int) + -1)) 0 15 _ W (inRange_eq' _ _ _))
                rw [hb2] at HI2
                have hbc : 0 ≤ (x0 : Int) ∧ (x0 : Int) < 16 ∧ 0 ≤ ((y0 : Int) - 1) ∧ ((y0 : Int) - 1) < 16 := by simp at hb hb2; omega
                have HQ := Aside0.mk (show (((y0 : Int) - 1)).toNat * 16 + ((x0 : Int)).toNat = (((y0 : Int) + -1) * 16 + (x0 : Int)).toNat by omega)
                have hq256 : (((y0 : Int) + -1) * 16 + (x0 : Int)).toNat < 256 := by omega
                have HBO := Aside0.mk hbc
                clear hb hb2
                have hy1 : 1 ≤ y0 := by omega
                clear hbc
                cases hg : g (((y0 : Int) + -1) * 16 + (x0 : Int)).toNat with
                | false =>
                  have HSK := Aside0.mk (mid_skip HM2.out (.inl (by rw [Bool.eq_false_iff]; intro h; have := ((hasP_iff g _ _).1 h).2.2.2.2; rw [HQ.out, hg] at this; cases this)))
                  go_wp2_with (first
                    | (go_at_call 62; (with_reducible refine (HI1.out _).mono ?_); rintro e W1 ⟨rfl, hd1⟩; have HD1 := Aside0.mk hd1.below; clear hd1)
                    | (go_at_call 62; (with_reducible refine (HI2.out _).mono ?_); rintro e W2 ⟨rfl, hd2⟩; have HD2 := Aside0.mk hd2.below; clear hd2; have hcg := HRC.out W2 (below_then (below_then (below_alloc (below_alloc HV.out.2.2 _) _) (below_alloc (below_alloc HV.out.2.2 _) _).size HD1.out) (below_then (below_alloc (below_alloc HV.out.2.2 _) _) (below_alloc (below_alloc HV.out.2.2 _) _).size HD1.out).size HD2.out) ((((((y0 : Int) + -1) * 16 + (x0 : Int)).toNat : Nat) : Int)) (by omega) (by omega); rw [Int.toNat_natCast, rdT_nat g _ hq256, hg] at hcg))
                  go_roundw
                  case rel => exact ⟨out', st2, 3 + 1, by go_num, by omega, ⟨(Kd.R_below (Kd.R_below (Kd.R_alloc (Kd.R_alloc HV.out.1 _) _) HD1.out) HD2.out), (Kd.R_below (Kd.R_below (Kd.R_alloc (Kd.R_alloc HV.out.2.1 _) _) HD1.out) HD2.out), (below_then (below_then (below_alloc (below_alloc HV.out.2.2 _) _) (below_alloc (below_alloc HV.out.2.2 _) _).size HD1.out) (below_then (below_alloc (below_alloc HV.out.2.2 _) _) (below_alloc (below_alloc HV.out.2.2 _) _).size HD1.out).size HD2.out)⟩, ⟨HSK.out, HT.out.2.1, HT.out.2.2⟩⟩
                  case measure => simp [intOf]
                | true =>
                  cases ho : out' (((y0 : Int) + -1) * 16 + (x0 : Int)).toNat with
                  | true =>
                    have HSK := Aside0.mk (mid_skip HM2.out (.inr (by rw [HQ.out]; exact ho)))
                    go_wp2_with (first
                      | (go_at_call 62; (with_reducible refine (HI1.out _).mono ?_); rintro e W1 ⟨rfl, hd1⟩; have HD1 := Aside0.mk hd1.below; clear hd1)
                      | (go_at_call 62; (with_reducible refine (HI2.out _).mono ?_); rintro e W2 ⟨rfl, hd2⟩; have HD2 := Aside0.mk hd2.below; clear hd2; have hcg := HRC.out W2 (below_then (below_then (below_alloc (below_alloc HV.out.2.2 _) _) (below_alloc (below_alloc HV.out.2.2 _) _).size HD1.out) (below_then (below_alloc (below_alloc HV.out.2.2 _) _) (below_alloc (below_alloc HV.out.2.2 _) _).size HD1.out).size HD2.out) ((((((y0 : Int) + -1) * 16 + (x0 : Int)).toNat : Nat) : Int)) (by omega) (by omega); rw [Int.toNat_natCast, rdT_nat g _ hq256, hg] at hcg; have hco := (tabR_cell (Kd.R_below (Kd.R_below (Kd.R_alloc (Kd.R_alloc HV.out.2.1 _) _) HD1.out) HD2.out) (((y0 : Int) + -1) * 16 + (x0 : Int)).toNat hq256).1; rw [ho] at hco; have hcf := (tabR_cell (Kd.R_below (Kd.R_below (Kd.R_alloc (Kd.R_alloc HV.out.2.1 _) _) HD1.out) HD2.out) (((y0 : Int) + -1) * 16 + (x0 : Int)).toNat hq256).2))
                    go_roundw
                    case rel => exact ⟨out', st2, 3 + 1, by go_num, by omega, ⟨(Kd.R_below (Kd.R_below (Kd.R_alloc (Kd.R_alloc HV.out.1 _) _) HD1.out) HD2.out), (Kd.R_below (Kd.R_below (Kd.R_alloc (Kd.R_alloc HV.out.2.1 _) _) HD1.out) HD2.out), (below_then (below_then (below_alloc (below_alloc HV.out.2.2 _) _) (below_alloc (below_alloc HV.out.2.2 _) _).size HD1.out) (below_then (below_alloc (below_alloc HV.out.2.2 _) _) (below_alloc (below_alloc HV.out.2.2 _) _).size HD1.out).size HD2.out)⟩, ⟨HSK.out, HT.out.2.1, HT.out.2.2⟩⟩
                    case measure => simp [intOf]
                  | false =>
                    have HPU := Aside0.mk (mid_push (todo' := st2 ++ [(((y0 : Int) + -1) * 16 + (x0 : Int)).toNat]) HM2.out ((hasP_iff g _ _).2 ⟨HBO.out.1, HBO.out.2.1, HBO.out.2.2.1, HBO.out.2.2.2, by rw [HQ.out]; exact hg⟩) (nb_adj p hp256 _ _ HBO.out.1 HBO.out.2.1 HBO.out.2.2.1 HBO.out.2.2.2 (by have h1 := HPX.out; have h2 := HPY.out; omega)) (fun q hq => by rw [HQ.out]; rcases List.mem_append.1 hq with h | h; exact .inr h; exact .inl (List.mem_singleton.1 h)) (fun q hq => List.mem_append_left _ hq) (by rw [HQ.out]; simp))
                    rw [HQ.out] at HPU
                    have HUN := Aside0.mk (unseen_set out' (((y0 : Int) + -1) * 16 + (x0 : Int)).toNat hq256 ho)
                    have HXI := Aside0.mk (show (((y0 : Int) + -1) * 16 + (x0 : Int)) = (((((y0 : Int) + -1) * 16 + (x0 : Int)).toNat : Nat) : Int) by omega)
                    go_wp2_with (first
                      | (go_at_call 62; (with_reducible refine (HI1.out _).mono ?_); rintro e W1 ⟨rfl, hd1⟩; have HD1 := Aside0.mk hd1.below; clear hd1)
                      | (go_at_call 62; (with_reducible refine (HI2.out _).mono ?_); rintro e W2 ⟨rfl, hd2⟩; have HD2 := Aside0.mk hd2.below; clear hd2; have hcg := HRC.out W2 (below_then (below_then (below_alloc (below_alloc HV.out.2.2 _) _) (below_alloc (below_alloc HV.out.2.2 _) _).size HD1.out) (below_then (below_alloc (below_alloc HV.out.2.2 _) _) (below_alloc (below_alloc HV.out.2.2 _) _).size HD1.out).size HD2.out) ((((((y0 : Int) + -1) * 16 + (x0 : Int)).toNat : Nat) : Int)) (by omega) (by omega); rw [Int.toNat_natCast, rdT_nat g _ hq256, hg] at hcg; have hco := (tabR_cell (Kd.R_below (Kd.R_below (Kd.R_alloc (Kd.R_alloc HV.out.2.1 _) _) HD1.out) HD2.out) (((y0 : Int) + -1) * 16 + (x0 : Int)).toNat hq256).1; rw [ho] at hco; have hcf := (tabR_cell (Kd.R_below (Kd.R_below (Kd.R_alloc (Kd.R_alloc HV.out.2.1 _) _) HD1.out) HD2.out) (((y0 : Int) + -1) * 16 + (x0 : Int)).toNat hq256).2; obtain ⟨cc2, hcc2⟩ := Kd.R_typed (Kd.R_below (Kd.R_below (Kd.R_alloc (Kd.R_alloc HV.out.2.1 _) _) HD1.out) HD2.out) B rfl; have HS3 := Aside0.mk (Kd.R_set (Kd.R_below (Kd.R_below (Kd.R_alloc (Kd.R_alloc HV.out.1 _) _) HD1.out) HD2.out) hcc2 (by decide) (((y0 : Int) + -1) * 16 + (x0 : Int)).toNat (.bool true)); have HO3 := Aside0.mk (tabR_put (Kd.R_below (Kd.R_below (Kd.R_alloc (Kd.R_alloc HV.out.2.1 _) _) HD1.out) HD2.out) (((y0 : Int) + -1) * 16 + (x0 : Int)).toNat true); have HB3 := Aside0.mk (below_set (g := B) (j := (((y0 : Int) + -1) * 16 + (x0 : Int)).toNat) (v := .bool true) (below_then (below_then (below_alloc (below_alloc HV.out.2.2 _) _) (below_alloc (below_alloc HV.out.2.2 _) _).size HD1.out) (below_then (below_alloc (below_alloc HV.out.2.2 _) _) (below_alloc (below_alloc HV.out.2.2 _) _).size HD1.out).size HD2.out) HBL.out); clear hcc2)
                      | ((with_reducible refine gate_builtin (b := .append) (xs := #[.tmp 96, .tmp 102]) rfl ?_); at_builtin; refine Kd.R_append (Kd.int .i64) (w0 := w) w.heap.size rfl (.tmp 96) (.tmp 102) 22 3 (.int .i64 0) 8 rfl Try.underlying22 info3 rfl (by decide) (by omega) u6 (st2.map fun (n : Nat) => (n : Int)) (((y0 : Int) + -1) * 16 + (x0 : Int)) [.int .i64 (((y0 : Int) + -1) * 16 + (x0 : Int))] (fun _ => True) (fun _ => False) rfl ?aX ?aP (fun _ hk => hk.elim) (fun _ _ => trivial) HS3.out HB3.out HB3.out.size ?aL ?_; (case aX => first | rfl | (go_simp; done) | (simp; done) | (go_simp; rfl)); (case aP => rfl); (case aL => (have hl_ := HT.out.2.1; rw [List.length_map]; omega)); intro v7 W7 ho7 hb7 hg7 hat7; have HS7 := Aside0.mk ho7; have HB7 := Aside0.mk hb7; have HO7 := Aside0.mk (Kd.R_over HO3.out HS3.out (by decide) hg7); clear ho7 hb7 hg7 hat7))
                    go_roundw
                    case rel =>
                      refine ⟨fun p => if p = (((y0 : Int) + -1) * 16 + (x0 : Int)).toNat then true else out' p, st2 ++ [(((y0 : Int) + -1) * 16 + (x0 : Int)).toNat], 3 + 1, by go_num, by omega, ⟨by have h := HS7.out; rw [HXI.out] at h; rw [List.map_append]; exact h, HO7.out, HB7.out⟩, ⟨HPU.out, ?_, ?_⟩⟩
                      · have h1 := HUN.out
                        have h2 := HT.out.2.1
                        rw [List.length_append, List.length_singleton]
                        omega
                      · have h1 := HUN.out
                        have h2 := HT.out.2.2
                        rw [List.length_append, List.length_singleton]
                        omega
                    case measure => simp [intOf]
        · have hd4 : d = 4 := by omega
          subst hd4
          go_wp2
          go_roundw
          case rel => exact ⟨out', st2, p, HV, ⟨HT.out.1, HT.out.2.1⟩⟩
          case measure =>
            obtain ⟨A2, c2, e2, _⟩ := Kd.Q_slice (Kd.Q_of_R HV.out.1)
            have h1 := unseen_outT HV.out.2.1
            have h2 := HMS.out
            have h3 := HT.out.2.2
            have h5 := HUE.out
            subst e2
            show 2 * unseen (outT wi B) + (st2.map fun (n : Nat) => (n : Int)).length < 2 * unseen (outT wo B) + (m + 1)
            rw [h1, h2, List.length_map]
            omega
theorem spec_spreadFrom.calls (A0 : Option Addr) (c0 : Nat) (l0 : List Bool) (a1 : Int) (r : List Bool) (w : World) (hr0 : Kd.bool.C w A0 l0.length l0) (hc0 : l0.length ≤ c0) (h : spec_spreadFrom.f l0 a1 = some r) :
    Calls Try.prog 66 #[.slice A0 l0.length c0, .int .i64 a1] w fun e w' => ∃ v0_ : Value, e = .returned (v0_) ∧ Kd.bool.R 4 w' w.heap.size (fun _ => True) v0_ r ∧ Below w.heap.size w w' := by
  unfold spec_spreadFrom.f at h
  by_cases hl : l0.length = 256 ∧ 0 ≤ a1 ∧ a1 < 256
  · rw [if_pos hl] at h
    obtain rfl := Option.some.inj h
    obtain ⟨hl, h0, h1⟩ := hl
    obtain ⟨s, rfl⟩ := Int.eq_ofNat_of_zero_le h0
    rw [hl] at hr0 hc0 ⊢
    rw [tab_of l0 hl] at hr0
    exact spread_calls A0 c0 _ s (by omega) w hr0 hc0
  · rw [if_neg hl] at h; cases h
end Go.Proofs.Ytbgohbinonkhfaa.Q

namespace Go.Proofs.Ytbgohbinonkhfaa.Q
open Go.RowKit Go.Proofs.YtbgohbinonkhfaaW.PrintWords Go.Proofs.YtbgohbinonkhfaaW.PrintLast Go.Proofs.YtbgohbinonkhfaaW.PrintMore
attribute [local go_sem] max2_int min2_int max_two min_two max_three min_three max_four min_four
set_option linter.unusedVariables false
set_option linter.unusedSimpArgs false
/-! ### spec_FloodRegion: function 25 -/
mutual
noncomputable def spec_FloodRegion.j0 : Nat → Int → Int → Int → Bool → Int → Int → Int → List Int → Option ((List (S47)))
  | 0, _, _, _, _, _, _, _, _ => none
  | k + 1, x1, x2, x3, x30, x26002000, x26002001, x26002002, x26002003 => if x30 = true then (some ([] : List (S47))) else (if 256 ≤ 281474976710656 then ((spec_pixelAt.f x26002000 x26002001 x26002002 x26002003 x1 x2).bind fun t26008 => (spec_FloodRegion.l0 k x1 x2 x3 (List.replicate 256 false) t26008 0 x26002000 x26002001 x26002002 x26002003)) else (none))
noncomputable def spec_FloodRegion.l0 : Nat → Int → Int → Int → List Bool → List Int → Int → Int → Int → Int → List Int → Option ((List (S47)))
  | 0, _, _, _, _, _, _, _, _, _, _ => none
  | k + 1, x1, x2, x3, x9, x10, x11, x26002000, x26002001, x26002002, x26002003 => if x11 < x26002001 then (spec_FloodRegion.l1 k x1 x2 x3 x9 x10 x11 0 x26002000 x26002001 x26002002 x26002003) else ((spec_spreadFrom.f x9 (wrap64 ((wrap64 (x2 * 16)) + x1))).bind fun t26011 => ((spec_runsOf.f k t26011).bind fun t26014 => (some t26014)))
noncomputable def spec_FloodRegion.l1 : Nat → Int → Int → Int → List Bool → List Int → Int → Int → Int → Int → Int → List Int → Option ((List (S47)))
  | 0, _, _, _, _, _, _, _, _, _, _, _ => none
  | k + 1, x1, x2, x3, x9, x10, x11, x12, x26002000, x26002001, x26002002, x26002003 => if x12 < x26002000 then ((spec_pixelAt.f x26002000 x26002001 x26002002 x26002003 x12 x11).bind fun t26017 => (spec_FloodRegion.l2 k x1 x2 x3 x9 x10 x11 x12 true t26017 0 x26002000 x26002001 x26002002 x26002003)) else (spec_FloodRegion.l0 k x1 x2 x3 x9 x10 (wrap64 (x11 + 1)) x26002000 x26002001 x26002002 x26002003)
noncomputable def spec_FloodRegion.l2 : Nat → Int → Int → Int → List Bool → List Int → Int → Int → Bool → List Int → Int → Int → Int → Int → List Int → Option ((List (S47)))
  | 0, _, _, _, _, _, _, _, _, _, _, _, _, _, _ => none
  | k + 1, x1, x2, x3, x9, x10, x11, x12, x13, x14, x15, x26002000, x26002001, x26002002, x26002003 => if x15 < x26002002 then (if x13 = true then (if 0 ≤ x15 then (if x15 < (x14.length : Int) then (if x15 < (x10.length : Int) then ((spec_distance.f (wrap64 ((rd x14 x15) - (rd x10 x15)))).bind fun t26022 => (spec_FloodRegion.l2 k x1 x2 x3 x9 x10 x11 x12 (decide (t26022 ≤ x3)) x14 (wrap64 (x15 + 1)) x26002000 x26002001 x26002002 x26002003)) else (none)) else (none)) else (none)) else (spec_FloodRegion.l2 k x1 x2 x3 x9 x10 x11 x12 false x14 (wrap64 (x15 + 1)) x26002000 x26002001 x26002002 x26002003)) else (if 0 ≤ (wrap64 ((wrap64 (x11 * 16)) + x12)) then (if (wrap64 ((wrap64 (x11 * 16)) + x12)) < (x9.length : Int) then (spec_FloodRegion.l1 k x1 x2 x3 (x9.set ((wrap64 ((wrap64 (x11 * 16)) + x12)) : Int).toNat x13) x10 x11 (wrap64 (x12 + 1)) x26002000 x26002001 x26002002 x26002003) else (none)) else (none))
end
noncomputable def spec_FloodRegion.f (k : Nat) (a0_0 : Int) (a0_1 : Int) (a0_2 : Int) (l0_3 : List Int) (a1 : Int) (a2 : Int) (a3 : Int) : Option ((List (S47))) := (spec_validImage.f k a0_0 a0_1 a0_2 l0_3).bind fun t26002 => (if t26002 = true then ((spec_onImage.f a0_0 a0_1 a0_2 l0_3 a1 a2).bind fun t26003 => (if t26003 = true then ((spec_inRange.f a3 0 255).bind fun t26004 => (spec_FloodRegion.j0 k a1 a2 a3 (!t26004) a0_0 a0_1 a0_2 l0_3)) else (spec_FloodRegion.j0 k a1 a2 a3 true a0_0 a0_1 a0_2 l0_3))) else (spec_FloodRegion.j0 k a1 a2 a3 true a0_0 a0_1 a0_2 l0_3))
theorem spec_FloodRegion.mono_l : ∀ k, (∀ y0 y1 y2 y3 y4 y5 y6 y7, LeO (spec_FloodRegion.j0 k y0 y1 y2 y3 y4 y5 y6 y7) (spec_FloodRegion.j0 (k + 1) y0 y1 y2 y3 y4 y5 y6 y7)) ∧ (∀ y0 y1 y2 y3 y4 y5 y6 y7 y8 y9, LeO (spec_FloodRegion.l0 k y0 y1 y2 y3 y4 y5 y6 y7 y8 y9) (spec_FloodRegion.l0 (k + 1) y0 y1 y2 y3 y4 y5 y6 y7 y8 y9)) ∧ (∀ y0 y1 y2 y3 y4 y5 y6 y7 y8 y9 y10, LeO (spec_FloodRegion.l1 k y0 y1 y2 y3 y4 y5 y6 y7 y8 y9 y10) (spec_FloodRegion.l1 (k + 1) y0 y1 y2 y3 y4 y5 y6 y7 y8 y9 y10)) ∧ (∀ y0 y1 y2 y3 y4 y5 y6 y7 y8 y9 y10 y11 y12 y13, LeO (spec_FloodRegion.l2 k y0 y1 y2 y3 y4 y5 y6 y7 y8 y9 y10 y11 y12 y13) (spec_FloodRegion.l2 (k + 1) y0 y1 y2 y3 y4 y5 y6 y7 y8 y9 y10 y11 y12 y13))
  | 0 => ⟨fun _ _ _ _ _ _ _ _ r h => by simp [spec_FloodRegion.j0] at h, fun _ _ _ _ _ _ _ _ _ _ r h => by simp [spec_FloodRegion.l0] at h, fun _ _ _ _ _ _ _ _ _ _ _ r h => by simp [spec_FloodRegion.l1] at h, fun _ _ _ _ _ _ _ _ _ _ _ _ _ _ r h => by simp [spec_FloodRegion.l2] at h⟩
  | k + 1 => by
    obtain ⟨ih0, ih1, ih2, ih3⟩ := spec_FloodRegion.mono_l k
    refine ⟨?_, ?_, ?_, ?_⟩
    · intro y0 y1 y2 y3 y4 y5 y6 y7
      unfold spec_FloodRegion.j0
      repeat' first
      | (with_reducible exact ih0 _ _ _ _ _ _ _ _)
      | (with_reducible exact ih1 _ _ _ _ _ _ _ _ _ _)
      | (with_reducible exact ih2 _ _ _ _ _ _ _ _ _ _ _)
      | (with_reducible exact ih3 _ _ _ _ _ _ _ _ _ _ _ _ _ _)
      | (with_reducible exact spec_runsOf.mono _ _)
      | (with_reducible exact spec_validImage.mono _ _ _ _ _)
      | (with_reducible exact LeO.refl _)
      | (with_reducible exact LeO.none _)
      | (with_reducible refine LeO.ite ?_ ?_)
      | (with_reducible refine LeO.bind ?_ (fun _ => ?_))
      | exact ih0 _ _ _ _ _ _ _ _
      | exact ih1 _ _ _ _ _ _ _ _ _ _
      | exact ih2 _ _ _ _ _ _ _ _ _ _ _
      | exact ih3 _ _ _ _ _ _ _ _ _ _ _ _ _ _
      | exact spec_runsOf.mono _ _
      | exact spec_validImage.mono _ _ _ _ _
      | exact LeO.none _
      | refine LeO.ite ?_ ?_
      | refine LeO.bind ?_ (fun _ => ?_)
    · intro y0 y1 y2 y3 y4 y5 y6 y7 y8 y9
      unfold spec_FloodRegion.l0
      repeat' first
      | (with_reducible exact ih0 _ _ _ _ _ _ _ _)
      | (with_reducible exact ih1 _ _ _ _ _ _ _ _ _ _)
      | (with_reducible exact ih2 _ _ _ _ _ _ _ _ _ _ _)
      | (with_reducible exact ih3 _ _ _ _ _ _ _ _ _ _ _ _ _ _)
      | (with_reducible exact spec_runsOf.mono _ _)
      | (with_reducible exact spec_validImage.mono _ _ _ _ _)
      | (with_reducible exact LeO.refl _)
      | (with_reducible exact LeO.none _)
      | (with_reducible refine LeO.ite ?_ ?_)
      | (with_reducible refine LeO.bind ?_ (fun _ => ?_))
      | exact ih0 _ _ _ _ _ _ _ _
      | exact ih1 _ _ _ _ _ _ _ _ _ _
      | exact ih2 _ _ _ _ _ _ _ _ _ _ _
      | exact ih3 _ _ _ _ _ _ _ _ _ _ _ _ _ _
      | exact spec_runsOf.mono _ _
      | exact spec_validImage.mono _ _ _ _ _
      | exact LeO.none _
      | refine LeO.ite ?_ ?_
      | refine LeO.bind ?_ (fun _ => ?_)
    · intro y0 y1 y2 y3 y4 y5 y6 y7 y8 y9 y10
      unfold spec_FloodRegion.l1
      repeat' first
      | (with_reducible exact ih0 _ _ _ _ _ _ _ _)
      | (with_reducible exact ih1 _ _ _ _ _ _ _ _ _ _)
      | (with_reducible exact ih2 _ _ _ _ _ _ _ _ _ _ _)
      | (with_reducible exact ih3 _ _ _ _ _ _ _ _ _ _ _ _ _ _)
      | (with_reducible exact spec_runsOf.mono _ _)
      | (with_reducible exact spec_validImage.mono _ _ _ _ _)
      | (with_reducible exact LeO.refl _)
      | (with_reducible exact LeO.none _)
      | (with_reducible refine LeO.ite ?_ ?_)
      | (with_reducible refine LeO.bind ?_ (fun _ => ?_))
      | exact ih0 _ _ _ _ _ _ _ _
      | exact ih1 _ _ _ _ _ _ _ _ _ _
      | exact ih2 _ _ _ _ _ _ _ _ _ _ _
      | exact ih3 _ _ _ _ _ _ _ _ _ _ _ _ _ _
      | exact spec_runsOf.mono _ _
      | exact spec_validImage.mono _ _ _ _ _
      | exact LeO.none _
      | refine LeO.ite ?_ ?_
      | refine LeO.bind ?_ (fun _ => ?_)
    · intro y0 y1 y2 y3 y4 y5 y6 y7 y8 y9 y10 y11 y12 y13
      unfold spec_FloodRegion.l2
      repeat' first
      | (with_reducible exact ih0 _ _ _ _ _ _ _ _)
      | (with_reducible exact ih1 _ _ _ _ _ _ _ _ _ _)
      | (with_reducible exact ih2 _ _ _ _ _ _ _ _ _ _ _)
      | (with_reducible exact ih3 _ _ _ _ _ _ _ _ _ _ _ _ _ _)
      | (with_reducible exact spec_runsOf.mono _ _)
      | (with_reducible exact spec_validImage.mono _ _ _ _ _)
      | (with_reducible exact LeO.refl _)
      | (with_reducible exact LeO.none _)
      | (with_reducible refine LeO.ite ?_ ?_)
      | (with_reducible refine LeO.bind ?_ (fun _ => ?_))
      | exact ih0 _ _ _ _ _ _ _ _
      | exact ih1 _ _ _ _ _ _ _ _ _ _
      | exact ih2 _ _ _ _ _ _ _ _ _ _ _
      | exact ih3 _ _ _ _ _ _ _ _ _ _ _ _ _ _
      | exact spec_runsOf.mono _ _
      | exact spec_validImage.mono _ _ _ _ _
      | exact LeO.none _
      | refine LeO.ite ?_ ?_
      | refine LeO.bind ?_ (fun _ => ?_)
theorem spec_FloodRegion.mono : ∀ a0 a1 a2 a3 a4 a5 a6 k, LeO (spec_FloodRegion.f k a0 a1 a2 a3 a4 a5 a6) (spec_FloodRegion.f (k + 1) a0 a1 a2 a3 a4 a5 a6) := by
  intro a0 a1 a2 a3 a4 a5 a6 k
  obtain ⟨ih0, ih1, ih2, ih3⟩ := spec_FloodRegion.mono_l k
  unfold spec_FloodRegion.f
  repeat' first
      | (with_reducible exact ih0 _ _ _ _ _ _ _ _)
      | (with_reducible exact ih1 _ _ _ _ _ _ _ _ _ _)
      | (with_reducible exact ih2 _ _ _ _ _ _ _ _ _ _ _)
      | (with_reducible exact ih3 _ _ _ _ _ _ _ _ _ _ _ _ _ _)
      | (with_reducible exact spec_runsOf.mono _ _)
      | (with_reducible exact spec_validImage.mono _ _ _ _ _)
      | (with_reducible exact LeO.refl _)
      | (with_reducible exact LeO.none _)
      | (with_reducible refine LeO.ite ?_ ?_)
      | (with_reducible refine LeO.bind ?_ (fun _ => ?_))
      | exact ih0 _ _ _ _ _ _ _ _
      | exact ih1 _ _ _ _ _ _ _ _ _ _
      | exact ih2 _ _ _ _ _ _ _ _ _ _ _
      | exact ih3 _ _ _ _ _ _ _ _ _ _ _ _ _ _
      | exact spec_runsOf.mono _ _
      | exact spec_validImage.mono _ _ _ _ _
      | exact LeO.none _
      | refine LeO.ite ?_ ?_
      | refine LeO.bind ?_ (fun _ => ?_)
set_option maxHeartbeats 8000000 in
set_option maxRecDepth 100000 in
theorem spec_FloodRegion.calls (k : Nat) (a0_0 : Int) (a0_1 : Int) (a0_2 : Int) (A0_3 : Option Addr) (c0_3 : Nat) (l0_3 : List Int) (a1 : Int) (a2 : Int) (a3 : Int) (r : List (S47)) (w : World) (hr0_3 : Kd.C (Kd.int .i64) w A0_3 l0_3.length l0_3) (hc0_3 : l0_3.length ≤ c0_3) (h : spec_FloodRegion.f k a0_0 a0_1 a0_2 l0_3 a1 a2 a3 = some r) :
    Calls Try.prog 25 #[.agg #[.int .i64 a0_0, .int .i64 a0_1, .int .i64 a0_2, .slice A0_3 l0_3.length c0_3], .int .i64 a1, .int .i64 a2, .int .i64 a3] w fun e w' => ∃ v0_ : Value, e = .returned (v0_) ∧ Kd.R k47 47 w' w.heap.size (fun _ => True) v0_ r ∧ Below w.heap.size w w' := by
  have hu28 := Try.underlying28
  have HR0_3 := Aside0.mk hr0_3
  have HC0_3 := Aside0.mk hc0_3
  clear hr0_3 hc0_3
  have HB := Aside0.mk (Below.refl w.heap.size w)
  have H : ((spec_validImage.f k a0_0 a0_1 a0_2 l0_3).bind fun t26002 => (if t26002 = true then ((spec_onImage.f a0_0 a0_1 a0_2 l0_3 a1 a2).bind fun t26003 => (if t26003 = true then ((spec_inRange.f a3 0 255).bind fun t26004 => (spec_FloodRegion.j0 k a1 a2 a3 (!t26004) a0_0 a0_1 a0_2 l0_3)) else (spec_FloodRegion.j0 k a1 a2 a3 true a0_0 a0_1 a0_2 l0_3))) else (spec_FloodRegion.j0 k a1 a2 a3 true a0_0 a0_1 a0_2 l0_3))) = some r := h
  clear h
  have HC5 := Aside0.mk H
  clear H
  go_enter Try.func25, Try.ntmps25
  go_upto_region 1 with (first | ((with_reducible refine gate_dst (N := 4) rfl ?_); refine box_event ?hg (N := 4) ?hd (cs := #[.int .i64 a0_0, .int .i64 a0_1, .int .i64 a0_2, .slice A0_3 l0_3.length c0_3]) (t := 28) ?hr ?_; (case hd => rfl); (case hg => rfl); (case hr => first | (go_simp; done) | (go_simp; rfl)); intro gb26001 hg w6 hbox hb; have n0_ := Aside0.mk (below_step (by repeat (first | (with_reducible first | exact HB.out | apply below_alloc | apply pw_below_drewN | apply below_drew1) | exact HB.out)) hb); have n1_ := Aside0.mk (hbox); have n2_ := Aside0.mk ((by rw [hg]; exact (below_size (by repeat (first | (with_reducible first | exact HB.out | apply below_alloc | apply pw_below_drewN | apply below_drew1) | exact HB.out))) : w.heap.size ≤ gb26001)); have n3_ := Aside0.mk ((by rw [hg]; exact (below_size (by repeat (first | (with_reducible first | exact HB.out | apply below_alloc | apply pw_below_drewN | apply below_drew1) | exact HB.out))) : w.heap.size ≤ gb26001)); clear HB; have HB := n0_; have BK26001 := n1_; have GW26001 := n2_; have GE26001 := n3_; clear n0_ n1_ n2_ n3_; clear hb hbox hg))
  repeat (go_quiet (first | ((with_reducible refine gate_dst (N := 4) rfl ?_); refine box_event ?hg (N := 4) ?hd (cs := #[.int .i64 a0_0, .int .i64 a0_1, .int .i64 a0_2, .slice A0_3 l0_3.length c0_3]) (t := 28) ?hr ?_; (case hd => rfl); (case hg => rfl); (case hr => first | (go_simp; done) | (go_simp; rfl)); intro gb26001 hg w6 hbox hb; have n0_ := Aside0.mk (below_step (by repeat (first | (with_reducible first | exact HB.out | apply below_alloc | apply pw_below_drewN | apply below_drew1) | exact HB.out)) hb); have n1_ := Aside0.mk (hbox); have n2_ := Aside0.mk ((by rw [hg]; exact (below_size (by repeat (first | (with_reducible first | exact HB.out | apply below_alloc | apply pw_below_drewN | apply below_drew1) | exact HB.out))) : w.heap.size ≤ gb26001)); have n3_ := Aside0.mk ((by rw [hg]; exact (below_size (by repeat (first | (with_reducible first | exact HB.out | apply below_alloc | apply pw_below_drewN | apply below_drew1) | exact HB.out))) : w.heap.size ≤ gb26001)); clear HB; have HB := n0_; have BK26001 := n1_; have GW26001 := n2_; have GE26001 := n3_; clear n0_ n1_ n2_ n3_; clear hb hbox hg)); go_upto_region 1 with (first | ((with_reducible refine gate_dst (N := 4) rfl ?_); refine box_event ?hg (N := 4) ?hd (cs := #[.int .i64 a0_0, .int .i64 a0_1, .int .i64 a0_2, .slice A0_3 l0_3.length c0_3]) (t := 28) ?hr ?_; (case hd => rfl); (case hg => rfl); (case hr => first | (go_simp; done) | (go_simp; rfl)); intro gb26001 hg w6 hbox hb; have n0_ := Aside0.mk (below_step (by repeat (first | (with_reducible first | exact HB.out | apply below_alloc | apply pw_below_drewN | apply below_drew1) | exact HB.out)) hb); have n1_ := Aside0.mk (hbox); have n2_ := Aside0.mk ((by rw [hg]; exact (below_size (by repeat (first | (with_reducible first | exact HB.out | apply below_alloc | apply pw_below_drewN | apply below_drew1) | exact HB.out))) : w.heap.size ≤ gb26001)); have n3_ := Aside0.mk ((by rw [hg]; exact (below_size (by repeat (first | (with_reducible first | exact HB.out | apply below_alloc | apply pw_below_drewN | apply below_drew1) | exact HB.out))) : w.heap.size ≤ gb26001)); clear HB; have HB := n0_; have BK26001 := n1_; have GW26001 := n2_; have GE26001 := n3_; clear n0_ n1_ n2_ n3_; clear hb hbox hg)))
  (try simp only [Act.put, List.setIfInBounds_toArray, List.set_cons_zero, List.set_cons_succ])
  go_cut [30] (fun v30 wc => ∃ (kq : Nat) (x30_4 : Bool), v30 = .bool x30_4 ∧ Aside0 (spec_FloodRegion.j0 kq a1 a2 a3 x30_4 a0_0 a0_1 a0_2 l0_3 = some r) ∧ Aside0 (kq ≤ k) ∧ Aside0 (wc.heap[gb26001]? = some (.cells #[.int .i64 a0_0, .int .i64 a0_1, .int .i64 a0_2, (.slice A0_3 l0_3.length c0_3)] 28 (0, 0))) ∧ Aside0 (Below w.heap.size w wc))
  case first =>
    have H := HC5.out
    clear HC5
    replace H := Option.bind_eq_some_iff.mp H
    obtain ⟨t26002, A70, H⟩ := H
    replace H : (if t26002 = true then ((spec_onImage.f a0_0 a0_1 a0_2 l0_3 a1 a2).bind fun t26003 => (if t26003 = true then ((spec_inRange.f a3 0 255).bind fun t26004 => (spec_FloodRegion.j0 k a1 a2 a3 (!t26004) a0_0 a0_1 a0_2 l0_3)) else (spec_FloodRegion.j0 k a1 a2 a3 true a0_0 a0_1 a0_2 l0_3))) else (spec_FloodRegion.j0 k a1 a2 a3 true a0_0 a0_1 a0_2 l0_3)) = some r := H
    have A7 := Aside0.mk A70
    clear A70
    by_cases c8 : t26002 = true
    · subst c8
      have H1 : ((spec_onImage.f a0_0 a0_1 a0_2 l0_3 a1 a2).bind fun t26003 => (if t26003 = true then ((spec_inRange.f a3 0 255).bind fun t26004 => (spec_FloodRegion.j0 k a1 a2 a3 (!t26004) a0_0 a0_1 a0_2 l0_3)) else (spec_FloodRegion.j0 k a1 a2 a3 true a0_0 a0_1 a0_2 l0_3))) = some r := by rw [if_pos rfl] at H; exact H
      clear H
      have H := H1
      clear H1
      replace H := Option.bind_eq_some_iff.mp H
      obtain ⟨t26003, A90, H⟩ := H
      replace H : (if t26003 = true then ((spec_inRange.f a3 0 255).bind fun t26004 => (spec_FloodRegion.j0 k a1 a2 a3 (!t26004) a0_0 a0_1 a0_2 l0_3)) else (spec_FloodRegion.j0 k a1 a2 a3 true a0_0 a0_1 a0_2 l0_3)) = some r := H
      have A9 := Aside0.mk A90
      clear A90
      by_cases c10 : t26003 = true
      · subst c10
        have H1 : ((spec_inRange.f a3 0 255).bind fun t26004 => (spec_FloodRegion.j0 k a1 a2 a3 (!t26004) a0_0 a0_1 a0_2 l0_3)) = some r := by rw [if_pos rfl] at H; exact H
        clear H
        have H := H1
        clear H1
        replace H := Option.bind_eq_some_iff.mp H
        obtain ⟨t26004, A110, H⟩ := H
        replace H : (spec_FloodRegion.j0 k a1 a2 a3 (!t26004) a0_0 a0_1 a0_2 l0_3) = some r := H
        have A11 := Aside0.mk A110
        clear A110
        have H' := Aside0.mk H
        clear H
        have hcz12_0 : w6.cell? ⟨gb26001, 0, none⟩ = some (.int .i64 a0_0) := (blk_cell BK26001.out 0).trans rfl
        have hcz12_1 : w6.cell? ⟨gb26001, 1, none⟩ = some (.int .i64 a0_1) := (blk_cell BK26001.out 1).trans rfl
        have hcz12_2 : w6.cell? ⟨gb26001, 2, none⟩ = some (.int .i64 a0_2) := (blk_cell BK26001.out 2).trans rfl
        have hcz12_3 : w6.cell? ⟨gb26001, 3, none⟩ = some (.slice A0_3 l0_3.length c0_3) := (blk_cell BK26001.out 3).trans rfl
        have hfz12_0 := blk_frozen BK26001.out 0
        have hfz12_1 := blk_frozen BK26001.out 1
        have hfz12_2 := blk_frozen BK26001.out 2
        have hfz12_3 := blk_frozen BK26001.out 3
        go_wp2_with (first | (go_at_call 60; (with_reducible refine (spec_validImage.calls k a0_0 a0_1 a0_2 _ _ l0_3 true _ ?side1 ?side2 A7.out).mono ?_); (case side1 => repeat (first | exact (Kd.C_below HR0_3.out HB.out) | (with_reducible refine Kd.C_alloc ?_ _) | (with_reducible refine Kd.C_drewN ?_ _) | (with_reducible refine Kd.C_drew ?_))); (case side2 => exact HC0_3.out); rintro e w13 ⟨rfl, hb⟩; have n0_ := Aside0.mk (blk_below (g := gb26001) (o := .cells #[.int .i64 a0_0, .int .i64 a0_1, .int .i64 a0_2, .slice A0_3 l0_3.length c0_3] 28 (0, 0)) (by (with_reducible repeat (first | refine blk_drewN ?_ _ | refine blk_drew ?_ | refine blk_alloc ?_ _)); exact BK26001.out) hb); have n1_ := Aside0.mk (below_step (by repeat (first | (with_reducible first | exact HB.out | apply below_alloc | apply pw_below_drewN | apply below_drew1 | refine below_set ?_ GE26001.out) | exact HB.out)) hb); clear BK26001; clear HB; have BK26001 := n0_; have HB := n1_; clear n0_ n1_; (try clear hb); (try clear hb2); (try clear hk); (try clear hi); have hcz14_0 : w13.cell? ⟨gb26001, 0, none⟩ = some (.int .i64 a0_0) := (blk_cell BK26001.out 0).trans rfl; have hcz14_1 : w13.cell? ⟨gb26001, 1, none⟩ = some (.int .i64 a0_1) := (blk_cell BK26001.out 1).trans rfl; have hcz14_2 : w13.cell? ⟨gb26001, 2, none⟩ = some (.int .i64 a0_2) := (blk_cell BK26001.out 2).trans rfl; have hcz14_3 : w13.cell? ⟨gb26001, 3, none⟩ = some (.slice A0_3 l0_3.length c0_3) := (blk_cell BK26001.out 3).trans rfl; have hfz14_0 := blk_frozen BK26001.out 0; have hfz14_1 := blk_frozen BK26001.out 1; have hfz14_2 := blk_frozen BK26001.out 2; have hfz14_3 := blk_frozen BK26001.out 3) | (go_at_call 61; (with_reducible refine (spec_onImage.calls a0_0 a0_1 a0_2 _ _ l0_3 a1 a2 true _ ?side1 ?side2 A9.out).mono ?_); (case side1 => repeat (first | exact (Kd.C_below HR0_3.out HB.out) | (with_reducible refine Kd.C_alloc ?_ _) | (with_reducible refine Kd.C_drewN ?_ _) | (with_reducible refine Kd.C_drew ?_))); (case side2 => exact HC0_3.out); rintro e w15 ⟨rfl, hb⟩; have n0_ := Aside0.mk (blk_below (g := gb26001) (o := .cells #[.int .i64 a0_0, .int .i64 a0_1, .int .i64 a0_2, .slice A0_3 l0_3.length c0_3] 28 (0, 0)) (by (with_reducible repeat (first | refine blk_drewN ?_ _ | refine blk_drew ?_ | refine blk_alloc ?_ _)); exact BK26001.out) hb); have n1_ := Aside0.mk (below_step (by repeat (first | (with_reducible first | exact HB.out | apply below_alloc | apply pw_below_drewN | apply below_drew1 | refine below_set ?_ GE26001.out) | exact HB.out)) hb); clear BK26001; clear HB; have BK26001 := n0_; have HB := n1_; clear n0_ n1_; (try clear hb); (try clear hb2); (try clear hk); (try clear hi)) | (go_at_call 62; (with_reducible refine (spec_inRange.calls a3 0 255 t26004 _ A11.out).mono ?_); rintro e w' ⟨rfl, ⟨nd, rfl⟩⟩; (try first | exact ⟨rfl, _, World.drewN_drewN _ _ _⟩ | exact ⟨rfl, _, Eq.trans (World.drewN_drewN _ _ _) (congrArg (World.drewN _) (Nat.add_assoc _ _ _))⟩)))
        repeat (go_quiet (first | (go_at_call 60; (with_reducible refine (spec_validImage.calls k a0_0 a0_1 a0_2 _ _ l0_3 true _ ?side1 ?side2 A7.out).mono ?_); (case side1 => repeat (first | exact (Kd.C_below HR0_3.out HB.out) | (with_reducible refine Kd.C_alloc ?_ _) | (with_reducible refine Kd.C_drewN ?_ _) | (with_reducible refine Kd.C_drew ?_))); (case side2 => exact HC0_3.out); rintro e w13 ⟨rfl, hb⟩; have n0_ := Aside0.mk (blk_below (g := gb26001) (o := .cells #[.int .i64 a0_0, .int .i64 a0_1, .int .i64 a0_2, .slice A0_3 l0_3.length c0_3] 28 (0, 0)) (by (with_reducible repeat (first | refine blk_drewN ?_ _ | refine blk_drew ?_ | refine blk_alloc ?_ _)); exact BK26001.out) hb); have n1_ := Aside0.mk (below_step (by repeat (first | (with_reducible first | exact HB.out | apply below_alloc | apply pw_below_drewN | apply below_drew1 | refine below_set ?_ GE26001.out) | exact HB.out)) hb); clear BK26001; clear HB; have BK26001 := n0_; have HB := n1_; clear n0_ n1_; (try clear hb); (try clear hb2); (try clear hk); (try clear hi); have hcz14_0 : w13.cell? ⟨gb26001, 0, none⟩ = some (.int .i64 a0_0) := (blk_cell BK26001.out 0).trans rfl; have hcz14_1 : w13.cell? ⟨gb26001, 1, none⟩ = some (.int .i64 a0_1) := (blk_cell BK26001.out 1).trans rfl; have hcz14_2 : w13.cell? ⟨gb26001, 2, none⟩ = some (.int .i64 a0_2) := (blk_cell BK26001.out 2).trans rfl; have hcz14_3 : w13.cell? ⟨gb26001, 3, none⟩ = some (.slice A0_3 l0_3.length c0_3) := (blk_cell BK26001.out 3).trans rfl; have hfz14_0 := blk_frozen BK26001.out 0; have hfz14_1 := blk_frozen BK26001.out 1; have hfz14_2 := blk_frozen BK26001.out 2; have hfz14_3 := blk_frozen BK26001.out 3) | (go_at_call 61; (with_reducible refine (spec_onImage.calls a0_0 a0_1 a0_2 _ _ l0_3 a1 a2 true _ ?side1 ?side2 A9.out).mono ?_); (case side1 => repeat (first | exact (Kd.C_below HR0_3.out HB.out) | (with_reducible refine Kd.C_alloc ?_ _) | (with_reducible refine Kd.C_drewN ?_ _) | (with_reducible refine Kd.C_drew ?_))); (case side2 => exact HC0_3.out); rintro e w15 ⟨rfl, hb⟩; have n0_ := Aside0.mk (blk_below (g := gb26001) (o := .cells #[.int .i64 a0_0, .int .i64 a0_1, .int .i64 a0_2, .slice A0_3 l0_3.length c0_3] 28 (0, 0)) (by (with_reducible repeat (first | refine blk_drewN ?_ _ | refine blk_drew ?_ | refine blk_alloc ?_ _)); exact BK26001.out) hb); have n1_ := Aside0.mk (below_step (by repeat (first | (with_reducible first | exact HB.out | apply below_alloc | apply pw_below_drewN | apply below_drew1 | refine below_set ?_ GE26001.out) | exact HB.out)) hb); clear BK26001; clear HB; have BK26001 := n0_; have HB := n1_; clear n0_ n1_; (try clear hb); (try clear hb2); (try clear hk); (try clear hi)) | (go_at_call 62; (with_reducible refine (spec_inRange.calls a3 0 255 t26004 _ A11.out).mono ?_); rintro e w' ⟨rfl, ⟨nd, rfl⟩⟩; (try first | exact ⟨rfl, _, World.drewN_drewN _ _ _⟩ | exact ⟨rfl, _, Eq.trans (World.drewN_drewN _ _ _) (congrArg (World.drewN _) (Nat.add_assoc _ _ _))⟩))); try go_wp2_with (first | (go_at_call 60; (with_reducible refine (spec_validImage.calls k a0_0 a0_1 a0_2 _ _ l0_3 true _ ?side1 ?side2 A7.out).mono ?_); (case side1 => repeat (first | exact (Kd.C_below HR0_3.out HB.out) | (with_reducible refine Kd.C_alloc ?_ _) | (with_reducible refine Kd.C_drewN ?_ _) | (with_reducible refine Kd.C_drew ?_))); (case side2 => exact HC0_3.out); rintro e w13 ⟨rfl, hb⟩; have n0_ := Aside0.mk (blk_below (g := gb26001) (o := .cells #[.int .i64 a0_0, .int .i64 a0_1, .int .i64 a0_2, .slice A0_3 l0_3.length c0_3] 28 (0, 0)) (by (with_reducible repeat (first | refine blk_drewN ?_ _ | refine blk_drew ?_ | refine blk_alloc ?_ _)); exact BK26001.out) hb); have n1_ := Aside0.mk (below_step (by repeat (first | (with_reducible first | exact HB.out | apply below_alloc | apply pw_below_drewN | apply below_drew1 | refine below_set ?_ GE26001.out) | exact HB.out)) hb); clear BK26001; clear HB; have BK26001 := n0_; have HB := n1_; clear n0_ n1_; (try clear hb); (try clear hb2); (try clear hk); (try clear hi); have hcz14_0 : w13.cell? ⟨gb26001, 0, none⟩ = some (.int .i64 a0_0) := (blk_cell BK26001.out 0).trans rfl; have hcz14_1 : w13.cell? ⟨gb26001, 1, none⟩ = some (.int .i64 a0_1) := (blk_cell BK26001.out 1).trans rfl; have hcz14_2 : w13.cell? ⟨gb26001, 2, none⟩ = some (.int .i64 a0_2) := (blk_cell BK26001.out 2).trans rfl; have hcz14_3 : w13.cell? ⟨gb26001, 3, none⟩ = some (.slice A0_3 l0_3.length c0_3) := (blk_cell BK26001.out 3).trans rfl; have hfz14_0 := blk_frozen BK26001.out 0; have hfz14_1 := blk_frozen BK26001.out 1; have hfz14_2 := blk_frozen BK26001.out 2; have hfz14_3 := blk_frozen BK26001.out 3) | (go_at_call 61; (with_reducible refine (spec_onImage.calls a0_0 a0_1 a0_2 _ _ l0_3 a1 a2 true _ ?side1 ?side2 A9.out).mono ?_); (case side1 => repeat (first | exact (Kd.C_below HR0_3.out HB.out) | (with_reducible refine Kd.C_alloc ?_ _) | (with_reducible refine Kd.C_drewN ?_ _) | (with_reducible refine Kd.C_drew ?_))); (case side2 => exact HC0_3.out); rintro e w15 ⟨rfl, hb⟩; have n0_ := Aside0.mk (blk_below (g := gb26001) (o := .cells #[.int .i64 a0_0, .int .i64 a0_1, .int .i64 a0_2, .slice A0_3 l0_3.length c0_3] 28 (0, 0)) (by (with_reducible repeat (first | refine blk_drewN ?_ _ | refine blk_drew ?_ | refine blk_alloc ?_ _)); exact BK26001.out) hb); have n1_ := Aside0.mk (below_step (by repeat (first | (with_reducible first | exact HB.out | apply below_alloc | apply pw_below_drewN | apply below_drew1 | refine below_set ?_ GE26001.out) | exact HB.out)) hb); clear BK26001; clear HB; have BK26001 := n0_; have HB := n1_; clear n0_ n1_; (try clear hb); (try clear hb2); (try clear hk); (try clear hi)) | (go_at_call 62; (with_reducible refine (spec_inRange.calls a3 0 255 t26004 _ A11.out).mono ?_); rintro e w' ⟨rfl, ⟨nd, rfl⟩⟩; (try first | exact ⟨rfl, _, World.drewN_drewN _ _ _⟩ | exact ⟨rfl, _, Eq.trans (World.drewN_drewN _ _ _) (congrArg (World.drewN _) (Nat.add_assoc _ _ _))⟩))))
        go_meet
        case rel => exact ⟨_, (!t26004), (by first | rfl | (simp; done) | (simp [*]; done)), H', ⟨by first | omega | exact Nat.le_refl _⟩, ⟨by (with_reducible repeat (first | refine blk_drewN ?_ _ | refine blk_drew ?_ | refine blk_alloc ?_ _)); exact BK26001.out⟩, ⟨by repeat (first | (with_reducible first | exact HB.out | apply below_alloc | apply pw_below_drewN | apply below_drew1 | refine below_set ?_ GE26001.out) | exact HB.out)⟩⟩
      · replace c10 := Bool.eq_false_iff.mpr c10
        subst c10
        have H1 : (spec_FloodRegion.j0 k a1 a2 a3 true a0_0 a0_1 a0_2 l0_3) = some r := by rw [if_neg (show ¬ (false = true) by decide)] at H; exact H
        clear H
        have H := H1
        clear H1
        have H' := Aside0.mk H
        clear H
        have hcz16_0 : w6.cell? ⟨gb26001, 0, none⟩ = some (.int .i64 a0_0) := (blk_cell BK26001.out 0).trans rfl
        have hcz16_1 : w6.cell? ⟨gb26001, 1, none⟩ = some (.int .i64 a0_1) := (blk_cell BK26001.out 1).trans rfl
        have hcz16_2 : w6.cell? ⟨gb26001, 2, none⟩ = some (.int .i64 a0_2) := (blk_cell BK26001.out 2).trans rfl
        have hcz16_3 : w6.cell? ⟨gb26001, 3, none⟩ = some (.slice A0_3 l0_3.length c0_3) := (blk_cell BK26001.out 3).trans rfl
        have hfz16_0 := blk_frozen BK26001.out 0
        have hfz16_1 := blk_frozen BK26001.out 1
        have hfz16_2 := blk_frozen BK26001.out 2
        have hfz16_3 := blk_frozen BK26001.out 3
        go_wp2_with (first | (go_at_call 60; (with_reducible refine (spec_validImage.calls k a0_0 a0_1 a0_2 _ _ l0_3 true _ ?side1 ?side2 A7.out).mono ?_); (case side1 => repeat (first | exact (Kd.C_below HR0_3.out HB.out) | (with_reducible refine Kd.C_alloc ?_ _) | (with_reducible refine Kd.C_drewN ?_ _) | (with_reducible refine Kd.C_drew ?_))); (case side2 => exact HC0_3.out); rintro e w17 ⟨rfl, hb⟩; have n0_ := Aside0.mk (blk_below (g := gb26001) (o := .cells #[.int .i64 a0_0, .int .i64 a0_1, .int .i64 a0_2, .slice A0_3 l0_3.length c0_3] 28 (0, 0)) (by (with_reducible repeat (first | refine blk_drewN ?_ _ | refine blk_drew ?_ | refine blk_alloc ?_ _)); exact BK26001.out) hb); have n1_ := Aside0.mk (below_step (by repeat (first | (with_reducible first | exact HB.out | apply below_alloc | apply pw_below_drewN | apply below_drew1 | refine below_set ?_ GE26001.out) | exact HB.out)) hb); clear BK26001; clear HB; have BK26001 := n0_; have HB := n1_; clear n0_ n1_; (try clear hb); (try clear hb2); (try clear hk); (try clear hi); have hcz18_0 : w17.cell? ⟨gb26001, 0, none⟩ = some (.int .i64 a0_0) := (blk_cell BK26001.out 0).trans rfl; have hcz18_1 : w17.cell? ⟨gb26001, 1, none⟩ = some (.int .i64 a0_1) := (blk_cell BK26001.out 1).trans rfl; have hcz18_2 : w17.cell? ⟨gb26001, 2, none⟩ = some (.int .i64 a0_2) := (blk_cell BK26001.out 2).trans rfl; have hcz18_3 : w17.cell? ⟨gb26001, 3, none⟩ = some (.slice A0_3 l0_3.length c0_3) := (blk_cell BK26001.out 3).trans rfl; have hfz18_0 := blk_frozen BK26001.out 0; have hfz18_1 := blk_frozen BK26001.out 1; have hfz18_2 := blk_frozen BK26001.out 2; have hfz18_3 := blk_frozen BK26001.out 3) | (go_at_call 61; (with_reducible refine (spec_onImage.calls a0_0 a0_1 a0_2 _ _ l0_3 a1 a2 false _ ?side1 ?side2 A9.out).mono ?_); (case side1 => repeat (first | exact (Kd.C_below HR0_3.out HB.out) | (with_reducible refine Kd.C_alloc ?_ _) | (with_reducible refine Kd.C_drewN ?_ _) | (with_reducible refine Kd.C_drew ?_))); (case side2 => exact HC0_3.out); rintro e w19 ⟨rfl, hb⟩; have n0_ := Aside0.mk (blk_below (g := gb26001) (o := .cells #[.int .i64 a0_0, .int .i64 a0_1, .int .i64 a0_2, .slice A0_3 l0_3.length c0_3] 28 (0, 0)) (by (with_reducible repeat (first | refine blk_drewN ?_ _ | refine blk_drew ?_ | refine blk_alloc ?_ _)); exact BK26001.out) hb); have n1_ := Aside0.mk (below_step (by repeat (first | (with_reducible first | exact HB.out | apply below_alloc | apply pw_below_drewN | apply below_drew1 | refine below_set ?_ GE26001.out) | exact HB.out)) hb); clear BK26001; clear HB; have BK26001 := n0_; have HB := n1_; clear n0_ n1_; (try clear hb); (try clear hb2); (try clear hk); (try clear hi)))
        repeat (go_quiet (first | (go_at_call 60; (with_reducible refine (spec_validImage.calls k a0_0 a0_1 a0_2 _ _ l0_3 true _ ?side1 ?side2 A7.out).mono ?_); (case side1 => repeat (first | exact (Kd.C_below HR0_3.out HB.out) | (with_reducible refine Kd.C_alloc ?_ _) | (with_reducible refine Kd.C_drewN ?_ _) | (with_reducible refine Kd.C_drew ?_))); (case side2 => exact HC0_3.out); rintro e w17 ⟨rfl, hb⟩; have n0_ := Aside0.mk (blk_below (g := gb26001) (o := .cells #[.int .i64 a0_0, .int .i64 a0_1, .int .i64 a0_2, .slice A0_3 l0_3.length c0_3] 28 (0, 0)) (by (with_reducible repeat (first | refine blk_drewN ?_ _ | refine blk_drew ?_ | refine blk_alloc ?_ _)); exact BK26001.out) hb); have n1_ := Aside0.mk (below_step (by repeat (first | (with_reducible first | exact HB.out | apply below_alloc | apply pw_below_drewN | apply below_drew1 | refine below_set ?_ GE26001.out) | exact HB.out)) hb); clear BK26001; clear HB; have BK26001 := n0_; have HB := n1_; clear n0_ n1_; (try clear hb); (try clear hb2); (try clear hk); (try clear hi); have hcz18_0 : w17.cell? ⟨gb26001, 0, none⟩ = some (.int .i64 a0_0) := (blk_cell BK26001.out 0).trans rfl; have hcz18_1 : w17.cell? ⟨gb26001, 1, none⟩ = some (.int .i64 a0_1) := (blk_cell BK26001.out 1).trans rfl; have hcz18_2 : w17.cell? ⟨gb26001, 2, none⟩ = some (.int .i64 a0_2) := (blk_cell BK26001.out 2).trans rfl; have hcz18_3 : w17.cell? ⟨gb26001, 3, none⟩ = some (.slice A0_3 l0_3.length c0_3) := (blk_cell BK26001.out 3).trans rfl; have hfz18_0 := blk_frozen BK26001.out 0; have hfz18_1 := blk_frozen BK26001.out 1; have hfz18_2 := blk_frozen BK26001.out 2; have hfz18_3 := blk_frozen BK26001.out 3) | (go_at_call 61; (with_reducible refine (spec_onImage.calls a0_0 a0_1 a0_2 _ _ l0_3 a1 a2 false _ ?side1 ?side2 A9.out).mono ?_); (case side1 => repeat (first | exact (Kd.C_below HR0_3.out HB.out) | (with_reducible refine Kd.C_alloc ?_ _) | (with_reducible refine Kd.C_drewN ?_ _) | (with_reducible refine Kd.C_drew ?_))); (case side2 => exact HC0_3.out); rintro e w19 ⟨rfl, hb⟩; have n0_ := Aside0.mk (blk_below (g := gb26001) (o := .cells #[.int .i64 a0_0, .int .i64 a0_1, .int .i64 a0_2, .slice A0_3 l0_3.length c0_3] 28 (0, 0)) (by (with_reducible repeat (first | refine blk_drewN ?_ _ | refine blk_drew ?_ | refine blk_alloc ?_ _)); exact BK26001.out) hb); have n1_ := Aside0.mk (below_step (by repeat (first | (with_reducible first | exact HB.out | apply below_alloc | apply pw_below_drewN | apply below_drew1 | refine below_set ?_ GE26001.out) | exact HB.out)) hb); clear BK26001; clear HB; have BK26001 := n0_; have HB := n1_; clear n0_ n1_; (try clear hb); (try clear hb2); (try clear hk); (try clear hi))); try go_wp2_with (first | (go_at_call 60; (with_reducible refine (spec_validImage.calls k a0_0 a0_1 a0_2 _ _ l0_3 true _ ?side1 ?side2 A7.out).mono ?_); (case side1 => repeat (first | exact (Kd.C_below HR0_3.out HB.out) | (with_reducible refine Kd.C_alloc ?_ _) | (with_reducible refine Kd.C_drewN ?_ _) | (with_reducible refine Kd.C_drew ?_))); (case side2 => exact HC0_3.out); rintro e w17 ⟨rfl, hb⟩; have n0_ := Aside0.mk (blk_below (g := gb26001) (o := .cells #[.int .i64 a0_0, .int .i64 a0_1, .int .i64 a0_2, .slice A0_3 l0_3.length c0_3] 28 (0, 0)) (by (with_reducible repeat (first | refine blk_drewN ?_ _ | refine blk_drew ?_ | refine blk_alloc ?_ _)); exact BK26001.out) hb); have n1_ := Aside0.mk (below_step (by repeat (first | (with_reducible first | exact HB.out | apply below_alloc | apply pw_below_drewN | apply below_drew1 | refine below_set ?_ GE26001.out) | exact HB.out)) hb); clear BK26001; clear HB; have BK26001 := n0_; have HB := n1_; clear n0_ n1_; (try clear hb); (try clear hb2); (try clear hk); (try clear hi); have hcz18_0 : w17.cell? ⟨gb26001, 0, none⟩ = some (.int .i64 a0_0) := (blk_cell BK26001.out 0).trans rfl; have hcz18_1 : w17.cell? ⟨gb26001, 1, none⟩ = some (.int .i64 a0_1) := (blk_cell BK26001.out 1).trans rfl; have hcz18_2 : w17.cell? ⟨gb26001, 2, none⟩ = some (.int .i64 a0_2) := (blk_cell BK26001.out 2).trans rfl; have hcz18_3 : w17.cell? ⟨gb26001, 3, none⟩ = some (.slice A0_3 l0_3.length c0_3) := (blk_cell BK26001.out 3).trans rfl; have hfz18_0 := blk_frozen BK26001.out 0; have hfz18_1 := blk_frozen BK26001.out 1; have hfz18_2 := blk_frozen BK26001.out 2; have hfz18_3 := blk_frozen BK26001.out 3) | (go_at_call 61; (with_reducible refine (spec_onImage.calls a0_0 a0_1 a0_2 _ _ l0_3 a1 a2 false _ ?side1 ?side2 A9.out).mono ?_); (case side1 => repeat (first | exact (Kd.C_below HR0_3.out HB.out) | (with_reducible refine Kd.C_alloc ?_ _) | (with_reducible refine Kd.C_drewN ?_ _) | (with_reducible refine Kd.C_drew ?_))); (case side2 => exact HC0_3.out); rintro e w19 ⟨rfl, hb⟩; have n0_ := Aside0.mk (blk_below (g := gb26001) (o := .cells #[.int .i64 a0_0, .int .i64 a0_1, .int .i64 a0_2, .slice A0_3 l0_3.length c0_3] 28 (0, 0)) (by (with_reducible repeat (first | refine blk_drewN ?_ _ | refine blk_drew ?_ | refine blk_alloc ?_ _)); exact BK26001.out) hb); have n1_ := Aside0.mk (below_step (by repeat (first | (with_reducible first | exact HB.out | apply below_alloc | apply pw_below_drewN | apply below_drew1 | refine below_set ?_ GE26001.out) | exact HB.out)) hb); clear BK26001; clear HB; have BK26001 := n0_; have HB := n1_; clear n0_ n1_; (try clear hb); (try clear hb2); (try clear hk); (try clear hi))))
        go_meet
        case rel => exact ⟨_, (true), (by first | rfl | (simp; done) | (simp [*]; done)), H', ⟨by first | omega | exact Nat.le_refl _⟩, ⟨by (with_reducible repeat (first | refine blk_drewN ?_ _ | refine blk_drew ?_ | refine blk_alloc ?_ _)); exact BK26001.out⟩, ⟨by repeat (first | (with_reducible first | exact HB.out | apply below_alloc | apply pw_below_drewN | apply below_drew1 | refine below_set ?_ GE26001.out) | exact HB.out)⟩⟩
    · replace c8 := Bool.eq_false_iff.mpr c8
      subst c8
      have H1 : (spec_FloodRegion.j0 k a1 a2 a3 true a0_0 a0_1 a0_2 l0_3) = some r := by rw [if_neg (show ¬ (false = true) by decide)] at H; exact H
      clear H
      have H := H1
      clear H1
      have H' := Aside0.mk H
      clear H
      have hcz20_0 : w6.cell? ⟨gb26001, 0, none⟩ = some (.int .i64 a0_0) := (blk_cell BK26001.out 0).trans rfl
      have hcz20_1 : w6.cell? ⟨gb26001, 1, none⟩ = some (.int .i64 a0_1) := (blk_cell BK26001.out 1).trans rfl
      have hcz20_2 : w6.cell? ⟨gb26001, 2, none⟩ = some (.int .i64 a0_2) := (blk_cell BK26001.out 2).trans rfl
      have hcz20_3 : w6.cell? ⟨gb26001, 3, none⟩ = some (.slice A0_3 l0_3.length c0_3) := (blk_cell BK26001.out 3).trans rfl
      have hfz20_0 := blk_frozen BK26001.out 0
      have hfz20_1 := blk_frozen BK26001.out 1
      have hfz20_2 := blk_frozen BK26001.out 2
      have hfz20_3 := blk_frozen BK26001.out 3
      go_wp2_with (first | (go_at_call 60; (with_reducible refine (spec_validImage.calls k a0_0 a0_1 a0_2 _ _ l0_3 false _ ?side1 ?side2 A7.out).mono ?_); (case side1 => repeat (first | exact (Kd.C_below HR0_3.out HB.out) | (with_reducible refine Kd.C_alloc ?_ _) | (with_reducible refine Kd.C_drewN ?_ _) | (with_reducible refine Kd.C_drew ?_))); (case side2 => exact HC0_3.out); rintro e w21 ⟨rfl, hb⟩; have n0_ := Aside0.mk (blk_below (g := gb26001) (o := .cells #[.int .i64 a0_0, .int .i64 a0_1, .int .i64 a0_2, .slice A0_3 l0_3.length c0_3] 28 (0, 0)) (by (with_reducible repeat (first | refine blk_drewN ?_ _ | refine blk_drew ?_ | refine blk_alloc ?_ _)); exact BK26001.out) hb); have n1_ := Aside0.mk (below_step (by repeat (first | (with_reducible first | exact HB.out | apply below_alloc | apply pw_below_drewN | apply below_drew1 | refine below_set ?_ GE26001.out) | exact HB.out)) hb); clear BK26001; clear HB; have BK26001 := n0_; have HB := n1_; clear n0_ n1_; (try clear hb); (try clear hb2); (try clear hk); (try clear hi)))
      repeat (go_quiet (first | (go_at_call 60; (with_reducible refine (spec_validImage.calls k a0_0 a0_1 a0_2 _ _ l0_3 false _ ?side1 ?side2 A7.out).mono ?_); (case side1 => repeat (first | exact (Kd.C_below HR0_3.out HB.out) | (with_reducible refine Kd.C_alloc ?_ _) | (with_reducible refine Kd.C_drewN ?_ _) | (with_reducible refine Kd.C_drew ?_))); (case side2 => exact HC0_3.out); rintro e w21 ⟨rfl, hb⟩; have n0_ := Aside0.mk (blk_below (g := gb26001) (o := .cells #[.int .i64 a0_0, .int .i64 a0_1, .int .i64 a0_2, .slice A0_3 l0_3.length c0_3] 28 (0, 0)) (by (with_reducible repeat (first | refine blk_drewN ?_ _ | refine blk_drew ?_ | refine blk_alloc ?_ _)); exact BK26001.out) hb); have n1_ := Aside0.mk (below_step (by repeat (first | (with_reducible first | exact HB.out | apply below_alloc | apply pw_below_drewN | apply below_drew1 | refine below_set ?_ GE26001.out) | exact HB.out)) hb); clear BK26001; clear HB; have BK26001 := n0_; have HB := n1_; clear n0_ n1_; (try clear hb); (try clear hb2); (try clear hk); (try clear hi))); try go_wp2_with (first | (go_at_call 60; (with_reducible refine (spec_validImage.calls k a0_0 a0_1 a0_2 _ _ l0_3 false _ ?side1 ?side2 A7.out).mono ?_); (case side1 => repeat (first | exact (Kd.C_below HR0_3.out HB.out) | (with_reducible refine Kd.C_alloc ?_ _) | (with_reducible refine Kd.C_drewN ?_ _) | (with_reducible refine Kd.C_drew ?_))); (case side2 => exact HC0_3.out); rintro e w21 ⟨rfl, hb⟩; have n0_ := Aside0.mk (blk_below (g := gb26001) (o := .cells #[.int .i64 a0_0, .int .i64 a0_1, .int .i64 a0_2, .slice A0_3 l0_3.length c0_3] 28 (0, 0)) (by (with_reducible repeat (first | refine blk_drewN ?_ _ | refine blk_drew ?_ | refine blk_alloc ?_ _)); exact BK26001.out) hb); have n1_ := Aside0.mk (below_step (by repeat (first | (with_reducible first | exact HB.out | apply below_alloc | apply pw_below_drewN | apply below_drew1 | refine below_set ?_ GE26001.out) | exact HB.out)) hb); clear BK26001; clear HB; have BK26001 := n0_; have HB := n1_; clear n0_ n1_; (try clear hb); (try clear hb2); (try clear hk); (try clear hi))))
      go_meet
      case rel => exact ⟨_, (true), (by first | rfl | (simp; done) | (simp [*]; done)), H', ⟨by first | omega | exact Nat.le_refl _⟩, ⟨by (with_reducible repeat (first | refine blk_drewN ?_ _ | refine blk_drew ?_ | refine blk_alloc ?_ _)); exact BK26001.out⟩, ⟨by repeat (first | (with_reducible first | exact HB.out | apply below_alloc | apply pw_below_drewN | apply below_drew1 | refine below_set ?_ GE26001.out) | exact HB.out)⟩⟩
  case rest =>
    clear HC5
    try clear c1
    try clear c2
    try clear p2
    try clear c8
    try clear c10
    try clear hcz12_0
    try clear hcz12_1
    try clear hcz12_2
    try clear hcz12_3
    try clear hcz14_0
    try clear hcz14_1
    try clear hcz14_2
    try clear hcz14_3
    try clear hcz16_0
    try clear hcz16_1
    try clear hcz16_2
    try clear hcz16_3
    try clear hcz18_0
    try clear hcz18_1
    try clear hcz18_2
    try clear hcz18_3
    try clear hcz20_0
    try clear hcz20_1
    try clear hcz20_2
    try clear hcz20_3
    try clear hfz12_0
    try clear hfz12_1
    try clear hfz12_2
    try clear hfz12_3
    try clear hfz14_0
    try clear hfz14_1
    try clear hfz14_2
    try clear hfz14_3
    try clear hfz16_0
    try clear hfz16_1
    try clear hfz16_2
    try clear hfz16_3
    try clear hfz18_0
    try clear hfz18_1
    try clear hfz18_2
    try clear hfz18_3
    try clear hfz20_0
    try clear hfz20_1
    try clear hfz20_2
    try clear hfz20_3
    obtain ⟨kq, x30_4, rfl, HA, HJ4, BK26001, HB⟩ := hcut
    cases kq with
    | zero => exact absurd HA.out (by simp [spec_FloodRegion.j0])
    | succ kj4 =>
      have H := HA.out
      clear HA
      simp only [spec_FloodRegion.j0] at H
      by_cases c22 : x30_4 = true
      · subst c22
        have H1 : (some ([] : List (S47))) = some r := by rw [if_pos rfl] at H; exact H
        clear H
        have H := H1
        clear H1
        obtain rfl := Option.some.inj H
        go_wp2
        repeat (go_quiet (fail); try go_wp2)
        go_ret
        exact ⟨_, by first | rfl | (simp [errW_none, errW_some] <;> rfl) | (simp [*, errW_none, errW_some] <;> rfl), by first | exact Kd.R_nil _ _ _ _ _ | exact Kd.N_nil _ _ _ _ _ | exact Kd.V_nil _ _ _ _ _ | exact Kd.Q_nil _ _ _ _ _ | exact Kd.S_nil _ _ _ _ _, by repeat (first | (with_reducible first | exact HB.out | apply below_alloc | apply pw_below_drewN | apply below_drew1 | refine below_set ?_ GE26001.out) | exact HB.out)⟩
      · replace c22 := Bool.eq_false_iff.mpr c22
        subst c22
        have H1 : (if 256 ≤ 281474976710656 then ((spec_pixelAt.f a0_0 a0_1 a0_2 l0_3 a1 a2).bind fun t26008 => (spec_FloodRegion.l0 kj4 a1 a2 a3 (List.replicate 256 false) t26008 0 a0_0 a0_1 a0_2 l0_3)) else (none)) = some r := by rw [if_neg (show ¬ (false = true) by decide)] at H; exact H
        clear H
        have H := H1
        clear H1
        by_cases c23 : 256 ≤ 281474976710656
        · rw [if_pos c23] at H
          have c23b0 := eq_true c23
          have c23b1 : decide (256 ≤ 281474976710656) = true := decide_eq_true c23
          clear c23
          obtain ⟨y26005, hy26005⟩ : ∃ y_ : List Bool, y_ = (List.replicate 256 false) := ⟨_, rfl⟩
          replace H : ((spec_pixelAt.f a0_0 a0_1 a0_2 l0_3 a1 a2).bind fun t26008 => (spec_FloodRegion.l0 kj4 a1 a2 a3 y26005 t26008 0 a0_0 a0_1 a0_2 l0_3)) = some r := by first | (rw [hy26005]; with_reducible exact H) | (have H2_ := (Option.bind_some _ _).symm.trans H; rw [hy26005]; with_reducible exact H2_) | (have H2_ := (Option.bind_some _ _).symm.trans H; with_reducible exact H2_) | with_reducible exact H | (rw [hy26005]; exact H) | exact H
          have Ny26005 := Aside0.mk hy26005
          clear hy26005
          replace H := Option.bind_eq_some_iff.mp H
          obtain ⟨t26008, A240, H⟩ := H
          replace H : (spec_FloodRegion.l0 kj4 a1 a2 a3 y26005 t26008 0 a0_0 a0_1 a0_2 l0_3) = some r := H
          have A24 := Aside0.mk A240
          clear A240
          have H' := Aside0.mk H
          clear H
          go_wp2_with (first | ((with_reducible refine gate_dst (N := 31) rfl ?_); refine Kd.R_make Kd.bool _ 4 rfl (N := 31) rfl 81 _ _ rfl 256 rfl rfl Try.underlying81 (.bool false) 1 info4 rfl (by decide) (by omega) false (ok := fun _ => True) (okp := fun _ => True) rfl (fun _ hk => hk) trivial (by omega) (by omega) (Below.refl _ _) (Nat.le_refl _) ?_; intro v26006 w25 ho26 hb hg_ hnew_; clear hg_ hnew_; (first | rw [← Ny26005.out] at ho26 | (simp only [Int.reduceToNat] at ho26; rw [← Ny26005.out] at ho26)); have n0_ := Aside0.mk (Kd.R_lower ho26 (below_size (by repeat (first | (with_reducible first | exact HB.out | apply below_alloc | apply pw_below_drewN | apply below_drew1 | refine below_set ?_ GE26001.out) | exact HB.out)))); have n1_ := Aside0.mk (blk_below (g := gb26001) (o := .cells #[.int .i64 a0_0, .int .i64 a0_1, .int .i64 a0_2, .slice A0_3 l0_3.length c0_3] 28 (0, 0)) (by (with_reducible repeat (first | refine blk_drewN ?_ _ | refine blk_drew ?_ | refine blk_alloc ?_ _)); exact BK26001.out) hb); have n2_ := Aside0.mk (below_step (by repeat (first | (with_reducible first | exact HB.out | apply below_alloc | apply pw_below_drewN | apply below_drew1 | refine below_set ?_ GE26001.out) | exact HB.out)) hb); clear BK26001; clear HB; have HO26007 := n0_; have BK26001 := n1_; have HB := n2_; clear n0_ n1_ n2_; clear hb ho26; have hcz27_0 : w25.cell? ⟨gb26001, 0, none⟩ = some (.int .i64 a0_0) := (blk_cell BK26001.out 0).trans rfl; have hcz27_1 : w25.cell? ⟨gb26001, 1, none⟩ = some (.int .i64 a0_1) := (blk_cell BK26001.out 1).trans rfl; have hcz27_2 : w25.cell? ⟨gb26001, 2, none⟩ = some (.int .i64 a0_2) := (blk_cell BK26001.out 2).trans rfl; have hcz27_3 : w25.cell? ⟨gb26001, 3, none⟩ = some (.slice A0_3 l0_3.length c0_3) := (blk_cell BK26001.out 3).trans rfl; have hfz27_0 := blk_frozen BK26001.out 0; have hfz27_1 := blk_frozen BK26001.out 1; have hfz27_2 := blk_frozen BK26001.out 2; have hfz27_3 := blk_frozen BK26001.out 3) | (go_at_call 63; (with_reducible refine (spec_pixelAt.calls a0_0 a0_1 a0_2 _ _ l0_3 a1 a2 t26008 _ ?side1 ?side2 A24.out).mono ?_); (case side1 => repeat (first | exact (Kd.C_below HR0_3.out HB.out) | (with_reducible refine Kd.C_alloc ?_ _) | (with_reducible refine Kd.C_drewN ?_ _) | (with_reducible refine Kd.C_drew ?_))); (case side2 => exact HC0_3.out); rintro e w28 ⟨v26009, rfl, ho0, hb⟩; have n0_ := Aside0.mk (Kd.R_below (by (with_reducible repeat (first | apply Kd.R_alloc | apply Kd.R_drewN | apply Kd.R_drew)); exact HO26007.out) hb); have n1_ := Aside0.mk (Kd.R_lower ho0 (below_size (by repeat (first | (with_reducible first | exact HB.out | apply below_alloc | apply pw_below_drewN | apply below_drew1 | refine below_set ?_ GE26001.out) | exact HB.out)))); have n2_ := Aside0.mk (blk_below (g := gb26001) (o := .cells #[.int .i64 a0_0, .int .i64 a0_1, .int .i64 a0_2, .slice A0_3 l0_3.length c0_3] 28 (0, 0)) (by (with_reducible repeat (first | refine blk_drewN ?_ _ | refine blk_drew ?_ | refine blk_alloc ?_ _)); exact BK26001.out) hb); have n3_ := Aside0.mk (below_step (by repeat (first | (with_reducible first | exact HB.out | apply below_alloc | apply pw_below_drewN | apply below_drew1 | refine below_set ?_ GE26001.out) | exact HB.out)) hb); clear HO26007; clear BK26001; clear HB; have HO26007 := n0_; have HO26010 := n1_; have BK26001 := n2_; have HB := n3_; clear n0_ n1_ n2_ n3_; (try clear hb); (try clear hb2); (try clear hk); (try clear hi); (try clear ho0)))
          repeat (go_quiet (first | ((with_reducible refine gate_dst (N := 31) rfl ?_); refine Kd.R_make Kd.bool _ 4 rfl (N := 31) rfl 81 _ _ rfl 256 rfl rfl Try.underlying81 (.bool false) 1 info4 rfl (by decide) (by omega) false (ok := fun _ => True) (okp := fun _ => True) rfl (fun _ hk => hk) trivial (by omega) (by omega) (Below.refl _ _) (Nat.le_refl _) ?_; intro v26006 w25 ho26 hb hg_ hnew_; clear hg_ hnew_; (first | rw [← Ny26005.out] at ho26 | (simp only [Int.reduceToNat] at ho26; rw [← Ny26005.out] at ho26)); have n0_ := Aside0.mk (Kd.R_lower ho26 (below_size (by repeat (first | (with_reducible first | exact HB.out | apply below_alloc | apply pw_below_drewN | apply below_drew1 | refine below_set ?_ GE26001.out) | exact HB.out)))); have n1_ := Aside0.mk (blk_below (g := gb26001) (o := .cells #[.int .i64 a0_0, .int .i64 a0_1, .int .i64 a0_2, .slice A0_3 l0_3.length c0_3] 28 (0, 0)) (by (with_reducible repeat (first | refine blk_drewN ?_ _ | refine blk_drew ?_ | refine blk_alloc ?_ _)); exact BK26001.out) hb); have n2_ := Aside0.mk (below_step (by repeat (first | (with_reducible first | exact HB.out | apply below_alloc | apply pw_below_drewN | apply below_drew1 | refine below_set ?_ GE26001.out) | exact HB.out)) hb); clear BK26001; clear HB; have HO26007 := n0_; have BK26001 := n1_; have HB := n2_; clear n0_ n1_ n2_; clear hb ho26; have hcz27_0 : w25.cell? ⟨gb26001, 0, none⟩ = some (.int .i64 a0_0) := (blk_cell BK26001.out 0).trans rfl; have hcz27_1 : w25.cell? ⟨gb26001, 1, none⟩ = some (.int .i64 a0_1) := (blk_cell BK26001.out 1).trans rfl; have hcz27_2 : w25.cell? ⟨gb26001, 2, none⟩ = some (.int .i64 a0_2) := (blk_cell BK26001.out 2).trans rfl; have hcz27_3 : w25.cell? ⟨gb26001, 3, none⟩ = some (.slice A0_3 l0_3.length c0_3) := (blk_cell BK26001.out 3).trans rfl; have hfz27_0 := blk_frozen BK26001.out 0; have hfz27_1 := blk_frozen BK26001.out 1; have hfz27_2 := blk_frozen BK26001.out 2; have hfz27_3 := blk_frozen BK26001.out 3) | (go_at_call 63; (with_reducible refine (spec_pixelAt.calls a0_0 a0_1 a0_2 _ _ l0_3 a1 a2 t26008 _ ?side1 ?side2 A24.out).mono ?_); (case side1 => repeat (first | exact (Kd.C_below HR0_3.out HB.out) | (with_reducible refine Kd.C_alloc ?_ _) | (with_reducible refine Kd.C_drewN ?_ _) | (with_reducible refine Kd.C_drew ?_))); (case side2 => exact HC0_3.out); rintro e w28 ⟨v26009, rfl, ho0, hb⟩; have n0_ := Aside0.mk (Kd.R_below (by (with_reducible repeat (first | apply Kd.R_alloc | apply Kd.R_drewN | apply Kd.R_drew)); exact HO26007.out) hb); have n1_ := Aside0.mk (Kd.R_lower ho0 (below_size (by repeat (first | (with_reducible first | exact HB.out | apply below_alloc | apply pw_below_drewN | apply below_drew1 | refine below_set ?_ GE26001.out) | exact HB.out)))); have n2_ := Aside0.mk (blk_below (g := gb26001) (o := .cells #[.int .i64 a0_0, .int .i64 a0_1, .int .i64 a0_2, .slice A0_3 l0_3.length c0_3] 28 (0, 0)) (by (with_reducible repeat (first | refine blk_drewN ?_ _ | refine blk_drew ?_ | refine blk_alloc ?_ _)); exact BK26001.out) hb); have n3_ := Aside0.mk (below_step (by repeat (first | (with_reducible first | exact HB.out | apply below_alloc | apply pw_below_drewN | apply below_drew1 | refine below_set ?_ GE26001.out) | exact HB.out)) hb); clear HO26007; clear BK26001; clear HB; have HO26007 := n0_; have HO26010 := n1_; have BK26001 := n2_; have HB := n3_; clear n0_ n1_ n2_ n3_; (try clear hb); (try clear hb2); (try clear hk); (try clear hi); (try clear ho0))); try go_wp2_with (first | ((with_reducible refine gate_dst (N := 31) rfl ?_); refine Kd.R_make Kd.bool _ 4 rfl (N := 31) rfl 81 _ _ rfl 256 rfl rfl Try.underlying81 (.bool false) 1 info4 rfl (by decide) (by omega) false (ok := fun _ => True) (okp := fun _ => True) rfl (fun _ hk => hk) trivial (by omega) (by omega) (Below.refl _ _) (Nat.le_refl _) ?_; intro v26006 w25 ho26 hb hg_ hnew_; clear hg_ hnew_; (first | rw [← Ny26005.out] at ho26 | (simp only [Int.reduceToNat] at ho26; rw [← Ny26005.out] at ho26)); have n0_ := Aside0.mk (Kd.R_lower ho26 (below_size (by repeat (first | (with_reducible first | exact HB.out | apply below_alloc | apply pw_below_drewN | apply below_drew1 | refine below_set ?_ GE26001.out) | exact HB.out)))); have n1_ := Aside0.mk (blk_below (g := gb26001) (o := .cells #[.int .i64 a0_0, .int .i64 a0_1, .int .i64 a0_2, .slice A0_3 l0_3.length c0_3] 28 (0, 0)) (by (with_reducible repeat (first | refine blk_drewN ?_ _ | refine blk_drew ?_ | refine blk_alloc ?_ _)); exact BK26001.out) hb); have n2_ := Aside0.mk (below_step (by repeat (first | (with_reducible first | exact HB.out | apply below_alloc | apply pw_below_drewN | apply below_drew1 | refine below_set ?_ GE26001.out) | exact HB.out)) hb); clear BK26001; clear HB; have HO26007 := n0_; have BK26001 := n1_; have HB := n2_; clear n0_ n1_ n2_; clear hb ho26; have hcz27_0 : w25.cell? ⟨gb26001, 0, none⟩ = some (.int .i64 a0_0) := (blk_cell BK26001.out 0).trans rfl; have hcz27_1 : w25.cell? ⟨gb26001, 1, none⟩ = some (.int .i64 a0_1) := (blk_cell BK26001.out 1).trans rfl; have hcz27_2 : w25.cell? ⟨gb26001, 2, none⟩ = some (.int .i64 a0_2) := (blk_cell BK26001.out 2).trans rfl; have hcz27_3 : w25.cell? ⟨gb26001, 3, none⟩ = some (.slice A0_3 l0_3.length c0_3) := (blk_cell BK26001.out 3).trans rfl; have hfz27_0 := blk_frozen BK26001.out 0; have hfz27_1 := blk_frozen BK26001.out 1; have hfz27_2 := blk_frozen BK26001.out 2; have hfz27_3 := blk_frozen BK26001.out 3) | (go_at_call 63; (with_reducible refine (spec_pixelAt.calls a0_0 a0_1 a0_2 _ _ l0_3 a1 a2 t26008 _ ?side1 ?side2 A24.out).mono ?_); (case side1 => repeat (first | exact (Kd.C_below HR0_3.out HB.out) | (with_reducible refine Kd.C_alloc ?_ _) | (with_reducible refine Kd.C_drewN ?_ _) | (with_reducible refine Kd.C_drew ?_))); (case side2 => exact HC0_3.out); rintro e w28 ⟨v26009, rfl, ho0, hb⟩; have n0_ := Aside0.mk (Kd.R_below (by (with_reducible repeat (first | apply Kd.R_alloc | apply Kd.R_drewN | apply Kd.R_drew)); exact HO26007.out) hb); have n1_ := Aside0.mk (Kd.R_lower ho0 (below_size (by repeat (first | (with_reducible first | exact HB.out | apply below_alloc | apply pw_below_drewN | apply below_drew1 | refine below_set ?_ GE26001.out) | exact HB.out)))); have n2_ := Aside0.mk (blk_below (g := gb26001) (o := .cells #[.int .i64 a0_0, .int .i64 a0_1, .int .i64 a0_2, .slice A0_3 l0_3.length c0_3] 28 (0, 0)) (by (with_reducible repeat (first | refine blk_drewN ?_ _ | refine blk_drew ?_ | refine blk_alloc ?_ _)); exact BK26001.out) hb); have n3_ := Aside0.mk (below_step (by repeat (first | (with_reducible first | exact HB.out | apply below_alloc | apply pw_below_drewN | apply below_drew1 | refine below_set ?_ GE26001.out) | exact HB.out)) hb); clear HO26007; clear BK26001; clear HB; have HO26007 := n0_; have HO26010 := n1_; have BK26001 := n2_; have HB := n3_; clear n0_ n1_ n2_ n3_; (try clear hb); (try clear hb2); (try clear hk); (try clear hi); (try clear ho0))))
          go_loopg [11] kj4 (fun kq v11 w' => ∃ (x9_2 : List Bool) (x11_2 : Int), v11 = .int .i64 x11_2 ∧ Aside0 (spec_FloodRegion.l0 kq a1 a2 a3 x9_2 t26008 x11_2 a0_0 a0_1 a0_2 l0_3 = some r) ∧ Aside0 (kq ≤ kj4) ∧ Aside0 (Kd.R Kd.bool 4 w' w.heap.size (fun _ => True) v26006 x9_2) ∧ Aside0 (Kd.R (Kd.int .i64) 3 w' w.heap.size (fun _ => True) v26009 t26008) ∧ Aside0 (w'.heap[gb26001]? = some (.cells #[.int .i64 a0_0, .int .i64 a0_1, .int .i64 a0_2, (.slice A0_3 l0_3.length c0_3)] 28 (0, 0))) ∧ Aside0 (Below w.heap.size w w'))
          case atStart => exact ⟨(y26005), (0), (by first | rfl | (simp; done) | (simp [*]; done)), H', ⟨Nat.le_refl _⟩, ⟨by (with_reducible repeat (first | apply Kd.R_alloc | apply Kd.R_drewN | apply Kd.R_drew)); exact HO26007.out⟩, ⟨by (with_reducible repeat (first | apply Kd.R_alloc | apply Kd.R_drewN | apply Kd.R_drew)); exact HO26010.out⟩, ⟨by (with_reducible repeat (first | refine blk_drewN ?_ _ | refine blk_drew ?_ | refine blk_alloc ?_ _)); exact BK26001.out⟩, ⟨by repeat (first | (with_reducible first | exact HB.out | apply below_alloc | apply pw_below_drewN | apply below_drew1 | refine below_set ?_ GE26001.out) | exact HB.out)⟩⟩
          case round =>
            clear H'
            try clear c1
            try clear c2
            try clear p2
            try clear c8
            try clear c10
            try clear c22
            try clear c23
            try clear c23b0
            try clear c23b1
            try clear c25
            try clear hcz12_0
            try clear hcz12_1
            try clear hcz12_2
            try clear hcz12_3
            try clear hcz14_0
            try clear hcz14_1
            try clear hcz14_2
            try clear hcz14_3
            try clear hcz16_0
            try clear hcz16_1
            try clear hcz16_2
            try clear hcz16_3
            try clear hcz18_0
            try clear hcz18_1
            try clear hcz18_2
            try clear hcz18_3
            try clear hcz20_0
            try clear hcz20_1
            try clear hcz20_2
            try clear hcz20_3
            try clear hcz27_0
            try clear hcz27_1
            try clear hcz27_2
            try clear hcz27_3
            try clear hfz12_0
            try clear hfz12_1
            try clear hfz12_2
            try clear hfz12_3
            try clear hfz14_0
            try clear hfz14_1
            try clear hfz14_2
            try clear hfz14_3
            try clear hfz16_0
            try clear hfz16_1
            try clear hfz16_2
            try clear hfz16_3
            try clear hfz18_0
            try clear hfz18_1
            try clear hfz18_2
            try clear hfz18_3
            try clear hfz20_0
            try clear hfz20_1
            try clear hfz20_2
            try clear hfz20_3
            try clear hfz27_0
            try clear hfz27_1
            try clear hfz27_2
            try clear hfz27_3
            try clear p2
            obtain ⟨x9_2, x11_2, rfl, HA, HK2, HO_9, HO_10, BK26001, HB⟩ := hrel
            cases gk with
            | zero => exact absurd HA.out (by simp [spec_FloodRegion.l0])
            | succ k2 =>
              have H := HA.out
              clear HA
              simp only [spec_FloodRegion.l0] at H
              by_cases c29 : x11_2 < a0_1
              · rw [if_pos c29] at H
                have c29b0 : decide (x11_2 < a0_1) = true := decide_eq_true c29
                clear c29
                have H' := Aside0.mk H
                clear H
                have hcz30_0 : wr.cell? ⟨gb26001, 0, none⟩ = some (.int .i64 a0_0) := (blk_cell BK26001.out 0).trans rfl
                have hcz30_1 : wr.cell? ⟨gb26001, 1, none⟩ = some (.int .i64 a0_1) := (blk_cell BK26001.out 1).trans rfl
                have hcz30_2 : wr.cell? ⟨gb26001, 2, none⟩ = some (.int .i64 a0_2) := (blk_cell BK26001.out 2).trans rfl
                have hcz30_3 : wr.cell? ⟨gb26001, 3, none⟩ = some (.slice A0_3 l0_3.length c0_3) := (blk_cell BK26001.out 3).trans rfl
                have hfz30_0 := blk_frozen BK26001.out 0
                have hfz30_1 := blk_frozen BK26001.out 1
                have hfz30_2 := blk_frozen BK26001.out 2
                have hfz30_3 := blk_frozen BK26001.out 3
                go_wp2
                repeat (go_quiet (fail); try go_wp2)
                go_loopg [12] k2 (fun kq v12 w' => ∃ (x9_3 : List Bool) (x12_3 : Int), v12 = .int .i64 x12_3 ∧ Aside0 (spec_FloodRegion.l1 kq a1 a2 a3 x9_3 t26008 x11_2 x12_3 a0_0 a0_1 a0_2 l0_3 = some r) ∧ Aside0 (kq ≤ k2) ∧ Aside0 (Kd.R Kd.bool 4 w' w.heap.size (fun _ => True) v26006 x9_3) ∧ Aside0 (Kd.R (Kd.int .i64) 3 w' w.heap.size (fun _ => True) v26009 t26008) ∧ Aside0 (w'.heap[gb26001]? = some (.cells #[.int .i64 a0_0, .int .i64 a0_1, .int .i64 a0_2, (.slice A0_3 l0_3.length c0_3)] 28 (0, 0))) ∧ Aside0 (Below w.heap.size w w'))
                case atStart => exact ⟨(x9_2), (0), (by first | rfl | (simp; done) | (simp [*]; done)), H', ⟨Nat.le_refl _⟩, ⟨by (with_reducible repeat (first | apply Kd.R_alloc | apply Kd.R_drewN | apply Kd.R_drew)); exact HO_9.out⟩, ⟨by (with_reducible repeat (first | apply Kd.R_alloc | apply Kd.R_drewN | apply Kd.R_drew)); exact HO_10.out⟩, ⟨by (with_reducible repeat (first | refine blk_drewN ?_ _ | refine blk_drew ?_ | refine blk_alloc ?_ _)); exact BK26001.out⟩, ⟨by repeat (first | (with_reducible first | exact HB.out | apply below_alloc | apply pw_below_drewN | apply below_drew1 | refine below_set ?_ GE26001.out) | exact HB.out)⟩⟩
                case round =>
                  clear H'
                  try clear c1
                  try clear c2
                  try clear p2
                  try clear c8
                  try clear c10
                  try clear c22
                  try clear c23
                  try clear c23b0
                  try clear c23b1
                  try clear c25
                  try clear c29
                  try clear c29b0
                  try clear hcz12_0
                  try clear hcz12_1
                  try clear hcz12_2
                  try clear hcz12_3
                  try clear hcz14_0
                  try clear hcz14_1
                  try clear hcz14_2
                  try clear hcz14_3
                  try clear hcz16_0
                  try clear hcz16_1
                  try clear hcz16_2
                  try clear hcz16_3
                  try clear hcz18_0
                  try clear hcz18_1
                  try clear hcz18_2
                  try clear hcz18_3
                  try clear hcz20_0
                  try clear hcz20_1
                  try clear hcz20_2
                  try clear hcz20_3
                  try clear hcz27_0
                  try clear hcz27_1
                  try clear hcz27_2
                  try clear hcz27_3
                  try clear hcz30_0
                  try clear hcz30_1
                  try clear hcz30_2
                  try clear hcz30_3
                  try clear hfz12_0
                  try clear hfz12_1
                  try clear hfz12_2
                  try clear hfz12_3
                  try clear hfz14_0
                  try clear hfz14_1
                  try clear hfz14_2
                  try clear hfz14_3
                  try clear hfz16_0
                  try clear hfz16_1
                  try clear hfz16_2
                  try clear hfz16_3
                  try clear hfz18_0
                  try clear hfz18_1
                  try clear hfz18_2
                  try clear hfz18_3
                  try clear hfz20_0
                  try clear hfz20_1
                  try clear hfz20_2
                  try clear hfz20_3
                  try clear hfz27_0
                  try clear hfz27_1
                  try clear hfz27_2
                  try clear hfz27_3
                  try clear hfz30_0
                  try clear hfz30_1
                  try clear hfz30_2
                  try clear hfz30_3
                  try clear p2
                  obtain ⟨x9_3, x12_3, rfl, HA, HK3, HO_9, HO_10, BK26001, HB⟩ := hrel
                  cases gk with
                  | zero => exact absurd HA.out (by simp [spec_FloodRegion.l1])
                  | succ k3 =>
                    have H := HA.out
                    clear HA
                    simp only [spec_FloodRegion.l1] at H
                    by_cases c31 : x12_3 < a0_0
                    · rw [if_pos c31] at H
                      have c31b0 : decide (x12_3 < a0_0) = true := decide_eq_true c31
                      clear c31
                      replace H := Option.bind_eq_some_iff.mp H
                      obtain ⟨t26017, A320, H⟩ := H
                      replace H : (spec_FloodRegion.l2 k3 a1 a2 a3 x9_3 t26008 x11_2 x12_3 true t26017 0 a0_0 a0_1 a0_2 l0_3) = some r := H
                      have A32 := Aside0.mk A320
                      clear A320
                      have H' := Aside0.mk H
                      clear H
                      have hcz33_0 : wr.cell? ⟨gb26001, 0, none⟩ = some (.int .i64 a0_0) := (blk_cell BK26001.out 0).trans rfl
                      have hcz33_1 : wr.cell? ⟨gb26001, 1, none⟩ = some (.int .i64 a0_1) := (blk_cell BK26001.out 1).trans rfl
                      have hcz33_2 : wr.cell? ⟨gb26001, 2, none⟩ = some (.int .i64 a0_2) := (blk_cell BK26001.out 2).trans rfl
                      have hcz33_3 : wr.cell? ⟨gb26001, 3, none⟩ = some (.slice A0_3 l0_3.length c0_3) := (blk_cell BK26001.out 3).trans rfl
                      have hfz33_0 := blk_frozen BK26001.out 0
                      have hfz33_1 := blk_frozen BK26001.out 1
                      have hfz33_2 := blk_frozen BK26001.out 2
                      have hfz33_3 := blk_frozen BK26001.out 3
                      go_wp2_with (first | (go_at_call 63; (with_reducible refine (spec_pixelAt.calls a0_0 a0_1 a0_2 _ _ l0_3 x12_3 x11_2 t26017 _ ?side1 ?side2 A32.out).mono ?_); (case side1 => repeat (first | exact (Kd.C_below HR0_3.out HB.out) | (with_reducible refine Kd.C_alloc ?_ _) | (with_reducible refine Kd.C_drewN ?_ _) | (with_reducible refine Kd.C_drew ?_))); (case side2 => exact HC0_3.out); rintro e w34 ⟨v26018, rfl, ho0, hb⟩; have n0_ := Aside0.mk (Kd.R_below (by (with_reducible repeat (first | apply Kd.R_alloc | apply Kd.R_drewN | apply Kd.R_drew)); exact HO_9.out) hb); have n1_ := Aside0.mk (Kd.R_elder' (by (with_reducible repeat (first | apply Kd.R_alloc | apply Kd.R_drewN | apply Kd.R_drew)); exact HO_10.out) (Kd.R_base ho0) hb); have n2_ := Aside0.mk (Kd.R_lower (Kd.R_new' ho0 (Kd.R_lt (by (with_reducible repeat (first | apply Kd.R_alloc | apply Kd.R_drewN | apply Kd.R_drew)); exact HO_10.out))) (below_size (by repeat (first | (with_reducible first | exact HB.out | apply below_alloc | apply pw_below_drewN | apply below_drew1 | refine below_set ?_ GE26001.out) | exact HB.out)))); have n3_ := Aside0.mk (blk_below (g := gb26001) (o := .cells #[.int .i64 a0_0, .int .i64 a0_1, .int .i64 a0_2, .slice A0_3 l0_3.length c0_3] 28 (0, 0)) (by (with_reducible repeat (first | refine blk_drewN ?_ _ | refine blk_drew ?_ | refine blk_alloc ?_ _)); exact BK26001.out) hb); have n4_ := Aside0.mk (below_step (by repeat (first | (with_reducible first | exact HB.out | apply below_alloc | apply pw_below_drewN | apply below_drew1 | refine below_set ?_ GE26001.out) | exact HB.out)) hb); clear HO_9; clear HO_10; clear BK26001; clear HB; have HO_9 := n0_; have HO_10 := n1_; have HO26019 := n2_; have BK26001 := n3_; have HB := n4_; clear n0_ n1_ n2_ n3_ n4_; (try clear hb); (try clear hb2); (try clear hk); (try clear hi); (try clear ho0)))
                      repeat (go_quiet (first | (go_at_call 63; (with_reducible refine (spec_pixelAt.calls a0_0 a0_1 a0_2 _ _ l0_3 x12_3 x11_2 t26017 _ ?side1 ?side2 A32.out).mono ?_); (case side1 => repeat (first | exact (Kd.C_below HR0_3.out HB.out) | (with_reducible refine Kd.C_alloc ?_ _) | (with_reducible refine Kd.C_drewN ?_ _) | (with_reducible refine Kd.C_drew ?_))); (case side2 => exact HC0_3.out); rintro e w34 ⟨v26018, rfl, ho0, hb⟩; have n0_ := Aside0.mk (Kd.R_below (by (with_reducible repeat (first | apply Kd.R_alloc | apply Kd.R_drewN | apply Kd.R_drew)); exact HO_9.out) hb); have n1_ := Aside0.mk (Kd.R_elder' (by (with_reducible repeat (first | apply Kd.R_alloc | apply Kd.R_drewN | apply Kd.R_drew)); exact HO_10.out) (Kd.R_base ho0) hb); have n2_ := Aside0.mk (Kd.R_lower (Kd.R_new' ho0 (Kd.R_lt (by (with_reducible repeat (first | apply Kd.R_alloc | apply Kd.R_drewN | apply Kd.R_drew)); exact HO_10.out))) (below_size (by repeat (first | (with_reducible first | exact HB.out | apply below_alloc | apply pw_below_drewN | apply below_drew1 | refine below_set ?_ GE26001.out) | exact HB.out)))); have n3_ := Aside0.mk (blk_below (g := gb26001) (o := .cells #[.int .i64 a0_0, .int .i64 a0_1, .int .i64 a0_2, .slice A0_3 l0_3.length c0_3] 28 (0, 0)) (by (with_reducible repeat (first | refine blk_drewN ?_ _ | refine blk_drew ?_ | refine blk_alloc ?_ _)); exact BK26001.out) hb); have n4_ := Aside0.mk (below_step (by repeat (first | (with_reducible first | exact HB.out | apply below_alloc | apply pw_below_drewN | apply below_drew1 | refine below_set ?_ GE26001.out) | exact HB.out)) hb); clear HO_9; clear HO_10; clear BK26001; clear HB; have HO_9 := n0_; have HO_10 := n1_; have HO26019 := n2_; have BK26001 := n3_; have HB := n4_; clear n0_ n1_ n2_ n3_ n4_; (try clear hb); (try clear hb2); (try clear hk); (try clear hi); (try clear ho0))); try go_wp2_with (first | (go_at_call 63; (with_reducible refine (spec_pixelAt.calls a0_0 a0_1 a0_2 _ _ l0_3 x12_3 x11_2 t26017 _ ?side1 ?side2 A32.out).mono ?_); (case side1 => repeat (first | exact (Kd.C_below HR0_3.out HB.out) | (with_reducible refine Kd.C_alloc ?_ _) | (with_reducible refine Kd.C_drewN ?_ _) | (with_reducible refine Kd.C_drew ?_))); (case side2 => exact HC0_3.out); rintro e w34 ⟨v26018, rfl, ho0, hb⟩; have n0_ := Aside0.mk (Kd.R_below (by (with_reducible repeat (first | apply Kd.R_alloc | apply Kd.R_drewN | apply Kd.R_drew)); exact HO_9.out) hb); have n1_ := Aside0.mk (Kd.R_elder' (by (with_reducible repeat (first | apply Kd.R_alloc | apply Kd.R_drewN | apply Kd.R_drew)); exact HO_10.out) (Kd.R_base ho0) hb); have n2_ := Aside0.mk (Kd.R_lower (Kd.R_new' ho0 (Kd.R_lt (by (with_reducible repeat (first | apply Kd.R_alloc | apply Kd.R_drewN | apply Kd.R_drew)); exact HO_10.out))) (below_size (by repeat (first | (with_reducible first | exact HB.out | apply below_alloc | apply pw_below_drewN | apply below_drew1 | refine below_set ?_ GE26001.out) | exact HB.out)))); have n3_ := Aside0.mk (blk_below (g := gb26001) (o := .cells #[.int .i64 a0_0, .int .i64 a0_1, .int .i64 a0_2, .slice A0_3 l0_3.length c0_3] 28 (0, 0)) (by (with_reducible repeat (first | refine blk_drewN ?_ _ | refine blk_drew ?_ | refine blk_alloc ?_ _)); exact BK26001.out) hb); have n4_ := Aside0.mk (below_step (by repeat (first | (with_reducible first | exact HB.out | apply below_alloc | apply pw_below_drewN | apply below_drew1 | refine below_set ?_ GE26001.out) | exact HB.out)) hb); clear HO_9; clear HO_10; clear BK26001; clear HB; have HO_9 := n0_; have HO_10 := n1_; have HO26019 := n2_; have BK26001 := n3_; have HB := n4_; clear n0_ n1_ n2_ n3_ n4_; (try clear hb); (try clear hb2); (try clear hk); (try clear hi); (try clear ho0))))
                      go_loopg [13, 15] k3 (fun kq v13 v15 w' => ∃ (x13_4 : Bool) (x15_4 : Int), v13 = .bool x13_4 ∧ v15 = .int .i64 x15_4 ∧ Aside0 (spec_FloodRegion.l2 kq a1 a2 a3 x9_3 t26008 x11_2 x12_3 x13_4 t26017 x15_4 a0_0 a0_1 a0_2 l0_3 = some r) ∧ Aside0 (kq ≤ k3) ∧ Aside0 (Kd.R Kd.bool 4 w' w.heap.size (fun _ => True) v26006 x9_3) ∧ Aside0 (Kd.R (Kd.int .i64) 3 w' w.heap.size (fun k_ => some k_ ≠ (v26018 : Value).ownBlock) v26009 t26008) ∧ Aside0 (Kd.R (Kd.int .i64) 3 w' w.heap.size (fun k_ => some k_ ≠ (v26009 : Value).ownBlock) v26018 t26017) ∧ Aside0 (w'.heap[gb26001]? = some (.cells #[.int .i64 a0_0, .int .i64 a0_1, .int .i64 a0_2, (.slice A0_3 l0_3.length c0_3)] 28 (0, 0))) ∧ Aside0 (Below w.heap.size w w'))
                      case atStart => exact ⟨(true), (0), (by first | rfl | (simp; done) | (simp [*]; done)), (by first | rfl | (simp; done) | (simp [*]; done)), H', ⟨Nat.le_refl _⟩, ⟨by (with_reducible repeat (first | apply Kd.R_alloc | apply Kd.R_drewN | apply Kd.R_drew)); exact HO_9.out⟩, ⟨by (with_reducible repeat (first | apply Kd.R_alloc | apply Kd.R_drewN | apply Kd.R_drew)); exact Kd.R_mono HO_10.out (fun _ hk => hk.2)⟩, ⟨by (with_reducible repeat (first | apply Kd.R_alloc | apply Kd.R_drewN | apply Kd.R_drew)); exact Kd.R_mono HO26019.out (fun _ hk => hk.2)⟩, ⟨by (with_reducible repeat (first | refine blk_drewN ?_ _ | refine blk_drew ?_ | refine blk_alloc ?_ _)); exact BK26001.out⟩, ⟨by repeat (first | (with_reducible first | exact HB.out | apply below_alloc | apply pw_below_drewN | apply below_drew1 | refine below_set ?_ GE26001.out) | exact HB.out)⟩⟩
                      case round =>
                        clear H'
                        try clear c1
                        try clear c2
                        try clear p2
                        try clear c3
                        try clear c8
                        try clear c10
                        try clear c22
                        try clear c23
                        try clear c23b0
                        try clear c23b1
                        try clear c25
                        try clear c29
                        try clear c29b0
                        try clear c31
                        try clear c31b0
                        try clear hcz12_0
                        try clear hcz12_1
                        try clear hcz12_2
                        try clear hcz12_3
                        try clear hcz14_0
                        try clear hcz14_1
                        try clear hcz14_2
                        try clear hcz14_3
                        try clear hcz16_0
                        try clear hcz16_1
                        try clear hcz16_2
                        try clear hcz16_3
                        try clear hcz18_0
                        try clear hcz18_1
                        try clear hcz18_2
                        try clear hcz18_3
                        try clear hcz20_0
                        try clear hcz20_1
                        try clear hcz20_2
                        try clear hcz20_3
                        try clear hcz27_0
                        try clear hcz27_1
                        try clear hcz27_2
                        try clear hcz27_3
                        try clear hcz30_0
                        try clear hcz30_1
                        try clear hcz30_2
                        try clear hcz30_3
                        try clear hcz33_0
                        try clear hcz33_1
                        try clear hcz33_2
                        try clear hcz33_3
                        try clear hfz12_0
                        try clear hfz12_1
                        try clear hfz12_2
                        try clear hfz12_3
                        try clear hfz14_0
                        try clear hfz14_1
                        try clear hfz14_2
                        try clear hfz14_3
                        try clear hfz16_0
                        try clear hfz16_1
                        try clear hfz16_2
                        try clear hfz16_3
                        try clear hfz18_0
                        try clear hfz18_1
                        try clear hfz18_2
                        try clear hfz18_3
                        try clear hfz20_0
                        try clear hfz20_1
                        try clear hfz20_2
                        try clear hfz20_3
                        try clear hfz27_0
                        try clear hfz27_1
                        try clear hfz27_2
                        try clear hfz27_3
                        try clear hfz30_0
                        try clear hfz30_1
                        try clear hfz30_2
                        try clear hfz30_3
                        try clear hfz33_0
                        try clear hfz33_1
                        try clear hfz33_2
                        try clear hfz33_3
                        try clear p2
                        obtain ⟨x13_4, x15_4, rfl, rfl, HA, HK4, HO_9, HO_10, HO_14, BK26001, HB⟩ := hrel
                        cases gk with
                        | zero => exact absurd HA.out (by simp [spec_FloodRegion.l2])
                        | succ k4 =>
                          have H := HA.out
                          clear HA
                          simp only [spec_FloodRegion.l2] at H
                          by_cases c35 : x15_4 < a0_2
                          · rw [if_pos c35] at H
                            have c35b0 : decide (x15_4 < a0_2) = true := decide_eq_true c35
                            clear c35
                            by_cases c36 : x13_4 = true
                            · subst c36
                              have H1 : (if 0 ≤ x15_4 then (if x15_4 < (t26017.length : Int) then (if x15_4 < (t26008.length : Int) then ((spec_distance.f (wrap64 ((rd t26017 x15_4) - (rd t26008 x15_4)))).bind fun t26022 => (spec_FloodRegion.l2 k4 a1 a2 a3 x9_3 t26008 x11_2 x12_3 (decide (t26022 ≤ a3)) t26017 (wrap64 (x15_4 + 1)) a0_0 a0_1 a0_2 l0_3)) else (none)) else (none)) else (none)) = some r := by rw [if_pos rfl] at H; exact H
                              clear H
                              have H := H1
                              clear H1
                              by_cases c37 : 0 ≤ x15_4
                              · rw [if_pos c37] at H
                                have c37b0 : decide (0 ≤ x15_4) = true := decide_eq_true c37
                                clear c37
                                by_cases c38 : x15_4 < (t26017.length : Int)
                                · rw [if_pos c38] at H
                                  have c38b0 : decide (x15_4 < (t26017.length : Int)) = true := decide_eq_true c38
                                  clear c38
                                  by_cases c39 : x15_4 < (t26008.length : Int)
                                  · rw [if_pos c39] at H
                                    have c39b0 : decide (x15_4 < (t26008.length : Int)) = true := decide_eq_true c39
                                    clear c39
                                    replace H := Option.bind_eq_some_iff.mp H
                                    obtain ⟨t26022, A400, H⟩ := H
                                    replace H : (spec_FloodRegion.l2 k4 a1 a2 a3 x9_3 t26008 x11_2 x12_3 (decide (t26022 ≤ a3)) t26017 (wrap64 (x15_4 + 1)) a0_0 a0_1 a0_2 l0_3) = some r := H
                                    have A40 := Aside0.mk A400
                                    clear A400
                                    have H' := Aside0.mk H
                                    clear H
                                    have hcz41_0 : wr.cell? ⟨gb26001, 0, none⟩ = some (.int .i64 a0_0) := (blk_cell BK26001.out 0).trans rfl
                                    have hcz41_1 : wr.cell? ⟨gb26001, 1, none⟩ = some (.int .i64 a0_1) := (blk_cell BK26001.out 1).trans rfl
                                    have hcz41_2 : wr.cell? ⟨gb26001, 2, none⟩ = some (.int .i64 a0_2) := (blk_cell BK26001.out 2).trans rfl
                                    have hcz41_3 : wr.cell? ⟨gb26001, 3, none⟩ = some (.slice A0_3 l0_3.length c0_3) := (blk_cell BK26001.out 3).trans rfl
                                    have hfz41_0 := blk_frozen BK26001.out 0
                                    have hfz41_1 := blk_frozen BK26001.out 1
                                    have hfz41_2 := blk_frozen BK26001.out 2
                                    have hfz41_3 := blk_frozen BK26001.out 3
                                    obtain ⟨Ao42, co42, eo42⟩ := Kd.R_slice HO_14.out
                                    subst eo42
                                    have p26020 : 0 ≤ (x15_4 : Int) := of_decide_eq_true (by first | (with_reducible assumption) | assumption)
                                    have q26020 : x15_4 < (t26017.length : Int) := of_decide_eq_true (by first | (with_reducible assumption) | assumption)
                                    obtain ⟨ad26020, e26020, hx26020_0⟩ := Kd.at_int (Kd.R_reads' HO_14.out).2.2 x15_4 p26020 q26020
                                    cases e26020
                                    replace p26020 := eq_true p26020
                                    replace q26020 := eq_true q26020
                                    obtain ⟨Ao43, co43, eo43⟩ := Kd.R_slice HO_10.out
                                    subst eo43
                                    have p26021 : 0 ≤ (x15_4 : Int) := of_decide_eq_true (by first | (with_reducible assumption) | assumption)
                                    have q26021 : x15_4 < (t26008.length : Int) := of_decide_eq_true (by first | (with_reducible assumption) | assumption)
                                    obtain ⟨ad26021, e26021, hx26021_0⟩ := Kd.at_int (Kd.R_reads' HO_10.out).2.2 x15_4 p26021 q26021
                                    cases e26021
                                    replace p26021 := eq_true p26021
                                    replace q26021 := eq_true q26021
                                    go_wp2_with (first | (go_at_call 64; (with_reducible refine (spec_distance.calls (wrap64 ((rd t26017 x15_4) - (rd t26008 x15_4))) t26022 _ A40.out).mono ?_); rintro e w' ⟨rfl, ⟨nd, rfl⟩⟩; (try first | exact ⟨rfl, _, World.drewN_drewN _ _ _⟩ | exact ⟨rfl, _, Eq.trans (World.drewN_drewN _ _ _) (congrArg (World.drewN _) (Nat.add_assoc _ _ _))⟩)))
                                    repeat (go_quiet (first | (go_at_call 64; (with_reducible refine (spec_distance.calls (wrap64 ((rd t26017 x15_4) - (rd t26008 x15_4))) t26022 _ A40.out).mono ?_); rintro e w' ⟨rfl, ⟨nd, rfl⟩⟩; (try first | exact ⟨rfl, _, World.drewN_drewN _ _ _⟩ | exact ⟨rfl, _, Eq.trans (World.drewN_drewN _ _ _) (congrArg (World.drewN _) (Nat.add_assoc _ _ _))⟩))); try go_wp2_with (first | (go_at_call 64; (with_reducible refine (spec_distance.calls (wrap64 ((rd t26017 x15_4) - (rd t26008 x15_4))) t26022 _ A40.out).mono ?_); rintro e w' ⟨rfl, ⟨nd, rfl⟩⟩; (try first | exact ⟨rfl, _, World.drewN_drewN _ _ _⟩ | exact ⟨rfl, _, Eq.trans (World.drewN_drewN _ _ _) (congrArg (World.drewN _) (Nat.add_assoc _ _ _))⟩))))
                                    go_roundg k4
                                    case measure => have := HJ4.out; have := HK2.out; have := HK3.out; have := HK4.out; omega
                                    case rel => exact ⟨(decide (t26022 ≤ a3)), (wrap64 (x15_4 + 1)), (by first | rfl | (simp; done) | (simp [*]; done)), (by first | rfl | (simp; done) | (simp [*]; done)), H', ⟨by have := HJ4.out; have := HK2.out; have := HK3.out; have := HK4.out; omega⟩, ⟨by (with_reducible repeat (first | apply Kd.R_alloc | apply Kd.R_drewN | apply Kd.R_drew)); exact HO_9.out⟩, ⟨by (with_reducible repeat (first | apply Kd.R_alloc | apply Kd.R_drewN | apply Kd.R_drew)); exact HO_10.out⟩, ⟨by (with_reducible repeat (first | apply Kd.R_alloc | apply Kd.R_drewN | apply Kd.R_drew)); exact HO_14.out⟩, ⟨by (with_reducible repeat (first | refine blk_drewN ?_ _ | refine blk_drew ?_ | refine blk_alloc ?_ _)); exact BK26001.out⟩, ⟨by repeat (first | (with_reducible first | exact HB.out | apply below_alloc | apply pw_below_drewN | apply below_drew1 | refine below_set ?_ GE26001.out) | exact HB.out)⟩⟩
                                  · rw [if_neg c39] at H
                                    exact absurd H (by simp)
                                · rw [if_neg c38] at H
                                  exact absurd H (by simp)
                              · rw [if_neg c37] at H
                                exact absurd H (by simp)
                            · replace c36 := Bool.eq_false_iff.mpr c36
                              subst c36
                              have H1 : (spec_FloodRegion.l2 k4 a1 a2 a3 x9_3 t26008 x11_2 x12_3 false t26017 (wrap64 (x15_4 + 1)) a0_0 a0_1 a0_2 l0_3) = some r := by rw [if_neg (show ¬ (false = true) by decide)] at H; exact H
                              clear H
                              have H := H1
                              clear H1
                              have H' := Aside0.mk H
                              clear H
                              have hcz44_0 : wr.cell? ⟨gb26001, 0, none⟩ = some (.int .i64 a0_0) := (blk_cell BK26001.out 0).trans rfl
                              have hcz44_1 : wr.cell? ⟨gb26001, 1, none⟩ = some (.int .i64 a0_1) := (blk_cell BK26001.out 1).trans rfl
                              have hcz44_2 : wr.cell? ⟨gb26001, 2, none⟩ = some (.int .i64 a0_2) := (blk_cell BK26001.out 2).trans rfl
                              have hcz44_3 : wr.cell? ⟨gb26001, 3, none⟩ = some (.slice A0_3 l0_3.length c0_3) := (blk_cell BK26001.out 3).trans rfl
                              have hfz44_0 := blk_frozen BK26001.out 0
                              have hfz44_1 := blk_frozen BK26001.out 1
                              have hfz44_2 := blk_frozen BK26001.out 2
                              have hfz44_3 := blk_frozen BK26001.out 3
                              go_wp2
                              repeat (go_quiet (fail); try go_wp2)
                              go_roundg k4
                              case measure => have := HJ4.out; have := HK2.out; have := HK3.out; have := HK4.out; omega
                              case rel => exact ⟨(false), (wrap64 (x15_4 + 1)), (by first | rfl | (simp; done) | (simp [*]; done)), (by first | rfl | (simp; done) | (simp [*]; done)), H', ⟨by have := HJ4.out; have := HK2.out; have := HK3.out; have := HK4.out; omega⟩, ⟨by (with_reducible repeat (first | apply Kd.R_alloc | apply Kd.R_drewN | apply Kd.R_drew)); exact HO_9.out⟩, ⟨by (with_reducible repeat (first | apply Kd.R_alloc | apply Kd.R_drewN | apply Kd.R_drew)); exact HO_10.out⟩, ⟨by (with_reducible repeat (first | apply Kd.R_alloc | apply Kd.R_drewN | apply Kd.R_drew)); exact HO_14.out⟩, ⟨by (with_reducible repeat (first | refine blk_drewN ?_ _ | refine blk_drew ?_ | refine blk_alloc ?_ _)); exact BK26001.out⟩, ⟨by repeat (first | (with_reducible first | exact HB.out | apply below_alloc | apply pw_below_drewN | apply below_drew1 | refine below_set ?_ GE26001.out) | exact HB.out)⟩⟩
                          · rw [if_neg c35] at H
                            have c35b0 : decide (x15_4 < a0_2) = false := decide_eq_false c35
                            clear c35
                            obtain ⟨ji45, hji45⟩ : ∃ j_ : Int, (wrap64 ((wrap64 (x11_2 * 16)) + x12_3)) = j_ := ⟨_, rfl⟩
                            replace H : (if 0 ≤ (ji45) then (if (ji45) < (x9_3.length : Int) then (spec_FloodRegion.l1 k4 a1 a2 a3 (x9_3.set ((ji45) : Int).toNat x13_4) t26008 x11_2 (wrap64 (x12_3 + 1)) a0_0 a0_1 a0_2 l0_3) else (none)) else (none)) = some r := by first | (rw [hji45] at H; exact H) | (simp only [hji45] at H ⊢; exact H)
                            have hji45w : (IntKind.i64.wrap ((wrap64 (x11_2 * 16)) + x12_3)) = ji45 := (i64_w _).trans hji45
                            by_cases c46 : 0 ≤ (ji45)
                            · rw [if_pos c46] at H
                              have c46b0 : decide (0 ≤ (ji45)) = true := decide_eq_true c46
                              clear c46
                              by_cases c47 : (ji45) < (x9_3.length : Int)
                              · rw [if_pos c47] at H
                                have c47b0 : decide ((ji45) < (x9_3.length : Int)) = true := decide_eq_true c47
                                clear c47
                                obtain ⟨y26023, hy26023⟩ : ∃ y_ : List Bool, y_ = (x9_3.set ((ji45) : Int).toNat x13_4) := ⟨_, rfl⟩
                                replace H : (spec_FloodRegion.l1 k4 a1 a2 a3 y26023 t26008 x11_2 (wrap64 (x12_3 + 1)) a0_0 a0_1 a0_2 l0_3) = some r := by first | (rw [hy26023]; with_reducible exact H) | (have H2_ := (Option.bind_some _ _).symm.trans H; rw [hy26023]; with_reducible exact H2_) | (have H2_ := (Option.bind_some _ _).symm.trans H; with_reducible exact H2_) | with_reducible exact H | (rw [hy26023]; exact H) | exact H
                                have Ny26023 := Aside0.mk hy26023
                                clear hy26023
                                have H' := Aside0.mk H
                                clear H
                                have hcz49_0 : wr.cell? ⟨gb26001, 0, none⟩ = some (.int .i64 a0_0) := (blk_cell BK26001.out 0).trans rfl
                                have hcz49_1 : wr.cell? ⟨gb26001, 1, none⟩ = some (.int .i64 a0_1) := (blk_cell BK26001.out 1).trans rfl
                                have hcz49_2 : wr.cell? ⟨gb26001, 2, none⟩ = some (.int .i64 a0_2) := (blk_cell BK26001.out 2).trans rfl
                                have hcz49_3 : wr.cell? ⟨gb26001, 3, none⟩ = some (.slice A0_3 l0_3.length c0_3) := (blk_cell BK26001.out 3).trans rfl
                                have hfz49_0 := blk_frozen BK26001.out 0
                                have hfz49_1 := blk_frozen BK26001.out 1
                                have hfz49_2 := blk_frozen BK26001.out 2
                                have hfz49_3 := blk_frozen BK26001.out 3
                                have p48 : 0 ≤ ((ji45) : Int) := of_decide_eq_true (by first | (with_reducible assumption) | assumption)
                                have q48 : ((ji45) : Int) < ((x9_3.length : Int) : Int) := of_decide_eq_true (by first | (with_reducible assumption) | assumption)
                                obtain ⟨go48, co48, eo48, gb48, gl48, cl48, HG48⟩ := Kd.R_form HO_9.out (by omega)
                                (first | cases eo48 | (injection eo48 with ea_ en_ ec_; (first | subst ea_ | (injection ea_ with ea_; subst ea_)); subst ec_; clear en_))
                                have GB48 := Aside0.mk gb48
                                have GG48 := Aside0.mk HG48
                                clear gb48 gl48 HG48
                                obtain ⟨hx48_0, hf48_0⟩ := Kd.R_celln false HO_9.out ((ji45) : Int) p48 q48
                                replace p48 := eq_true p48
                                replace q48 := eq_true q48
                                have HP50 := Kd.R_putg HO_9.out ((ji45) : Int) x13_4
                                go_wp2_with (first | ((with_reducible refine gate_store (t := 4) (p := 79) rfl ?_); (try (rw [drewN_self wr]; generalize hq_ : World.drewN wr _ = wr; have n0_ := Aside0.mk (Kd.R_at hq_ HO_9.out); have n1_ := Aside0.mk (Kd.R_at hq_ HO_10.out); have n2_ := Aside0.mk (Kd.R_at hq_ HO_14.out); have n3_ := Aside0.mk (blk_at hq_ BK26001.out); have n4_ := Aside0.mk (below_at hq_ HB.out); clear hq_ HO_9 HO_10 HO_14 BK26001 HB; have HO_9 := n0_; have HO_10 := n1_; have HO_14 := n2_; have BK26001 := n3_; have HB := n4_; clear n0_ n1_ n2_ n3_ n4_; (try (have HP50 := Kd.R_putg HO_9.out ((ji45) : Int) x13_4)))); refine store_event (t := 4) (p := 79) (v := ?vo_w51) (w1 := (wr.setCell ⟨go48, ((ji45) : Int).toNat, none⟩ (.bool x13_4))) ?hg ?ho ?hn ?hr ?_; (case ho => rfl); (case hg => rfl); (case hn => rfl); (case hr => first | (go_simp; done) | (go_simp; rfl)); intro w51 hw; have hg : wr.grownBy w51 (some go48) := (by rw [hw]; exact HP50.2); have hp_ : Kd.R Kd.bool 4 w51 w.heap.size (fun _ => True) (.slice (some ⟨go48, 0, none⟩) x9_3.length co48) y26023 := (by rw [hw, Ny26023.out]; exact HP50.1); clear HP50; have n0_ := Aside0.mk (hp_); have n1_ := Aside0.mk (Kd.R_over' (v := (.slice (some ⟨go48, 0, none⟩) x9_3.length co48)) (by (with_reducible repeat (first | apply Kd.R_alloc | apply Kd.R_drewN | apply Kd.R_drew)); exact HO_10.out) (Kd.R_typed HO_9.out) (by decide) hg); have n2_ := Aside0.mk (Kd.R_over' (v := (.slice (some ⟨go48, 0, none⟩) x9_3.length co48)) (by (with_reducible repeat (first | apply Kd.R_alloc | apply Kd.R_drewN | apply Kd.R_drew)); exact HO_14.out) (Kd.R_typed HO_9.out) (by decide) hg); have n3_ := Aside0.mk (blk_grown (g := gb26001) (o := .cells #[.int .i64 a0_0, .int .i64 a0_1, .int .i64 a0_2, .slice A0_3 l0_3.length c0_3] 28 (0, 0)) (by (with_reducible repeat (first | refine blk_drewN ?_ _ | refine blk_drew ?_ | refine blk_alloc ?_ _)); exact BK26001.out) hg (Kd.R_ne HO_9.out BK26001.out (by decide))); have n4_ := Aside0.mk ((by rw [hw]; exact below_set (HB.out) GB48.out : Below w.heap.size w w51)); clear HO_9; clear HO_10; clear HO_14; clear BK26001; clear HB; have HO_9 := n0_; have HO_10 := n1_; have HO_14 := n2_; have BK26001 := n3_; have HB := n4_; clear n0_ n1_ n2_ n3_ n4_; clear hg hw hp_))
                                repeat (go_quiet (first | ((with_reducible refine gate_store (t := 4) (p := 79) rfl ?_); (try (rw [drewN_self wr]; generalize hq_ : World.drewN wr _ = wr; have n0_ := Aside0.mk (Kd.R_at hq_ HO_9.out); have n1_ := Aside0.mk (Kd.R_at hq_ HO_10.out); have n2_ := Aside0.mk (Kd.R_at hq_ HO_14.out); have n3_ := Aside0.mk (blk_at hq_ BK26001.out); have n4_ := Aside0.mk (below_at hq_ HB.out); clear hq_ HO_9 HO_10 HO_14 BK26001 HB; have HO_9 := n0_; have HO_10 := n1_; have HO_14 := n2_; have BK26001 := n3_; have HB := n4_; clear n0_ n1_ n2_ n3_ n4_; (try (have HP50 := Kd.R_putg HO_9.out ((ji45) : Int) x13_4)))); refine store_event (t := 4) (p := 79) (v := ?vo_w51) (w1 := (wr.setCell ⟨go48, ((ji45) : Int).toNat, none⟩ (.bool x13_4))) ?hg ?ho ?hn ?hr ?_; (case ho => rfl); (case hg => rfl); (case hn => rfl); (case hr => first | (go_simp; done) | (go_simp; rfl)); intro w51 hw; have hg : wr.grownBy w51 (some go48) := (by rw [hw]; exact HP50.2); have hp_ : Kd.R Kd.bool 4 w51 w.heap.size (fun _ => True) (.slice (some ⟨go48, 0, none⟩) x9_3.length co48) y26023 := (by rw [hw, Ny26023.out]; exact HP50.1); clear HP50; have n0_ := Aside0.mk (hp_); have n1_ := Aside0.mk (Kd.R_over' (v := (.slice (some ⟨go48, 0, none⟩) x9_3.length co48)) (by (with_reducible repeat (first | apply Kd.R_alloc | apply Kd.R_drewN | apply Kd.R_drew)); exact HO_10.out) (Kd.R_typed HO_9.out) (by decide) hg); have n2_ := Aside0.mk (Kd.R_over' (v := (.slice (some ⟨go48, 0, none⟩) x9_3.length co48)) (by (with_reducible repeat (first | apply Kd.R_alloc | apply Kd.R_drewN | apply Kd.R_drew)); exact HO_14.out) (Kd.R_typed HO_9.out) (by decide) hg); have n3_ := Aside0.mk (blk_grown (g := gb26001) (o := .cells #[.int .i64 a0_0, .int .i64 a0_1, .int .i64 a0_2, .slice A0_3 l0_3.length c0_3] 28 (0, 0)) (by (with_reducible repeat (first | refine blk_drewN ?_ _ | refine blk_drew ?_ | refine blk_alloc ?_ _)); exact BK26001.out) hg (Kd.R_ne HO_9.out BK26001.out (by decide))); have n4_ := Aside0.mk ((by rw [hw]; exact below_set (HB.out) GB48.out : Below w.heap.size w w51)); clear HO_9; clear HO_10; clear HO_14; clear BK26001; clear HB; have HO_9 := n0_; have HO_10 := n1_; have HO_14 := n2_; have BK26001 := n3_; have HB := n4_; clear n0_ n1_ n2_ n3_ n4_; clear hg hw hp_)); try go_wp2_with (first | ((with_reducible refine gate_store (t := 4) (p := 79) rfl ?_); (try (rw [drewN_self wr]; generalize hq_ : World.drewN wr _ = wr; have n0_ := Aside0.mk (Kd.R_at hq_ HO_9.out); have n1_ := Aside0.mk (Kd.R_at hq_ HO_10.out); have n2_ := Aside0.mk (Kd.R_at hq_ HO_14.out); have n3_ := Aside0.mk (blk_at hq_ BK26001.out); have n4_ := Aside0.mk (below_at hq_ HB.out); clear hq_ HO_9 HO_10 HO_14 BK26001 HB; have HO_9 := n0_; have HO_10 := n1_; have HO_14 := n2_; have BK26001 := n3_; have HB := n4_; clear n0_ n1_ n2_ n3_ n4_; (try (have HP50 := Kd.R_putg HO_9.out ((ji45) : Int) x13_4)))); refine store_event (t := 4) (p := 79) (v := ?vo_w51) (w1 := (wr.setCell ⟨go48, ((ji45) : Int).toNat, none⟩ (.bool x13_4))) ?hg ?ho ?hn ?hr ?_; (case ho => rfl); (case hg => rfl); (case hn => rfl); (case hr => first | (go_simp; done) | (go_simp; rfl)); intro w51 hw; have hg : wr.grownBy w51 (some go48) := (by rw [hw]; exact HP50.2); have hp_ : Kd.R Kd.bool 4 w51 w.heap.size (fun _ => True) (.slice (some ⟨go48, 0, none⟩) x9_3.length co48) y26023 := (by rw [hw, Ny26023.out]; exact HP50.1); clear HP50; have n0_ := Aside0.mk (hp_); have n1_ := Aside0.mk (Kd.R_over' (v := (.slice (some ⟨go48, 0, none⟩) x9_3.length co48)) (by (with_reducible repeat (first | apply Kd.R_alloc | apply Kd.R_drewN | apply Kd.R_drew)); exact HO_10.out) (Kd.R_typed HO_9.out) (by decide) hg); have n2_ := Aside0.mk (Kd.R_over' (v := (.slice (some ⟨go48, 0, none⟩) x9_3.length co48)) (by (with_reducible repeat (first | apply Kd.R_alloc | apply Kd.R_drewN | apply Kd.R_drew)); exact HO_14.out) (Kd.R_typed HO_9.out) (by decide) hg); have n3_ := Aside0.mk (blk_grown (g := gb26001) (o := .cells #[.int .i64 a0_0, .int .i64 a0_1, .int .i64 a0_2, .slice A0_3 l0_3.length c0_3] 28 (0, 0)) (by (with_reducible repeat (first | refine blk_drewN ?_ _ | refine blk_drew ?_ | refine blk_alloc ?_ _)); exact BK26001.out) hg (Kd.R_ne HO_9.out BK26001.out (by decide))); have n4_ := Aside0.mk ((by rw [hw]; exact below_set (HB.out) GB48.out : Below w.heap.size w w51)); clear HO_9; clear HO_10; clear HO_14; clear BK26001; clear HB; have HO_9 := n0_; have HO_10 := n1_; have HO_14 := n2_; have BK26001 := n3_; have HB := n4_; clear n0_ n1_ n2_ n3_ n4_; clear hg hw hp_)))
                                go_roundg k4
                                case measure => have := HJ4.out; have := HK2.out; have := HK3.out; have := HK4.out; omega
                                case rel => exact ⟨(y26023), (wrap64 (x12_3 + 1)), (by first | rfl | (simp; done) | (simp [*]; done)), H', ⟨by have := HJ4.out; have := HK2.out; have := HK3.out; have := HK4.out; omega⟩, ⟨by (with_reducible repeat (first | apply Kd.R_alloc | apply Kd.R_drewN | apply Kd.R_drew)); exact HO_9.out⟩, ⟨by (with_reducible repeat (first | apply Kd.R_alloc | apply Kd.R_drewN | apply Kd.R_drew)); exact Kd.R_mono HO_10.out (fun _ hk => trivial)⟩, ⟨by (with_reducible repeat (first | refine blk_drewN ?_ _ | refine blk_drew ?_ | refine blk_alloc ?_ _)); exact BK26001.out⟩, ⟨by repeat (first | (with_reducible first | exact HB.out | apply below_alloc | apply pw_below_drewN | apply below_drew1 | refine below_set ?_ GE26001.out) | exact HB.out)⟩⟩
                              · rw [if_neg c47] at H
                                exact absurd H (by simp)
                            · rw [if_neg c46] at H
                              exact absurd H (by simp)
                    · rw [if_neg c31] at H
                      have c31b0 : decide (x12_3 < a0_0) = false := decide_eq_false c31
                      clear c31
                      have H' := Aside0.mk H
                      clear H
                      have hcz52_0 : wr.cell? ⟨gb26001, 0, none⟩ = some (.int .i64 a0_0) := (blk_cell BK26001.out 0).trans rfl
                      have hcz52_1 : wr.cell? ⟨gb26001, 1, none⟩ = some (.int .i64 a0_1) := (blk_cell BK26001.out 1).trans rfl
                      have hcz52_2 : wr.cell? ⟨gb26001, 2, none⟩ = some (.int .i64 a0_2) := (blk_cell BK26001.out 2).trans rfl
                      have hcz52_3 : wr.cell? ⟨gb26001, 3, none⟩ = some (.slice A0_3 l0_3.length c0_3) := (blk_cell BK26001.out 3).trans rfl
                      have hfz52_0 := blk_frozen BK26001.out 0
                      have hfz52_1 := blk_frozen BK26001.out 1
                      have hfz52_2 := blk_frozen BK26001.out 2
                      have hfz52_3 := blk_frozen BK26001.out 3
                      go_wp2
                      repeat (go_quiet (fail); try go_wp2)
                      go_roundg k3
                      case measure => have := HJ4.out; have := HK2.out; have := HK3.out; omega
                      case rel => exact ⟨(x9_3), (wrap64 (x11_2 + 1)), (by first | rfl | (simp; done) | (simp [*]; done)), H', ⟨by have := HJ4.out; have := HK2.out; have := HK3.out; omega⟩, ⟨by (with_reducible repeat (first | apply Kd.R_alloc | apply Kd.R_drewN | apply Kd.R_drew)); exact HO_9.out⟩, ⟨by (with_reducible repeat (first | apply Kd.R_alloc | apply Kd.R_drewN | apply Kd.R_drew)); exact HO_10.out⟩, ⟨by (with_reducible repeat (first | refine blk_drewN ?_ _ | refine blk_drew ?_ | refine blk_alloc ?_ _)); exact BK26001.out⟩, ⟨by repeat (first | (with_reducible first | exact HB.out | apply below_alloc | apply pw_below_drewN | apply below_drew1 | refine below_set ?_ GE26001.out) | exact HB.out)⟩⟩
              · rw [if_neg c29] at H
                have c29b0 : decide (x11_2 < a0_1) = false := decide_eq_false c29
                clear c29
                replace H := Option.bind_eq_some_iff.mp H
                obtain ⟨t26011, A530, H⟩ := H
                replace H : ((spec_runsOf.f k2 t26011).bind fun t26014 => (some t26014)) = some r := H
                have A53 := Aside0.mk A530
                clear A530
                replace H := Option.bind_eq_some_iff.mp H
                obtain ⟨t26014, A540, H⟩ := H
                replace H : (some t26014) = some r := H
                have A54 := Aside0.mk A540
                clear A540
                obtain rfl := Option.some.inj H
                have hcz55_0 : wr.cell? ⟨gb26001, 0, none⟩ = some (.int .i64 a0_0) := (blk_cell BK26001.out 0).trans rfl
                have hcz55_1 : wr.cell? ⟨gb26001, 1, none⟩ = some (.int .i64 a0_1) := (blk_cell BK26001.out 1).trans rfl
                have hcz55_2 : wr.cell? ⟨gb26001, 2, none⟩ = some (.int .i64 a0_2) := (blk_cell BK26001.out 2).trans rfl
                have hcz55_3 : wr.cell? ⟨gb26001, 3, none⟩ = some (.slice A0_3 l0_3.length c0_3) := (blk_cell BK26001.out 3).trans rfl
                have hfz55_0 := blk_frozen BK26001.out 0
                have hfz55_1 := blk_frozen BK26001.out 1
                have hfz55_2 := blk_frozen BK26001.out 2
                have hfz55_3 := blk_frozen BK26001.out 3
                obtain ⟨Ao56, co56, eo56⟩ := Kd.R_slice HO_9.out
                subst eo56
                go_wp2_with (first | (go_at_call 66; (with_reducible refine (spec_spreadFrom.calls _ _ x9_2 (wrap64 ((wrap64 (a2 * 16)) + a1)) t26011 _ ?side1 ?side2 A53.out).mono ?_); (case side1 => repeat (first | exact (Kd.R_reads' HO_9.out).2.2 | (with_reducible refine Kd.C_alloc ?_ _) | (with_reducible refine Kd.C_drewN ?_ _) | (with_reducible refine Kd.C_drew ?_))); (case side2 => exact (Kd.R_reads' HO_9.out).2.1); rintro e w57 ⟨v26012, rfl, ho0, hb⟩; have n0_ := Aside0.mk (Kd.R_elder' (by (with_reducible repeat (first | apply Kd.R_alloc | apply Kd.R_drewN | apply Kd.R_drew)); exact HO_9.out) (Kd.R_base ho0) hb); have n1_ := Aside0.mk (Kd.R_below (by (with_reducible repeat (first | apply Kd.R_alloc | apply Kd.R_drewN | apply Kd.R_drew)); exact HO_10.out) hb); have n2_ := Aside0.mk (Kd.R_lower (Kd.R_new' ho0 (Kd.R_lt (by (with_reducible repeat (first | apply Kd.R_alloc | apply Kd.R_drewN | apply Kd.R_drew)); exact HO_9.out))) (below_size (by repeat (first | (with_reducible first | exact HB.out | apply below_alloc | apply pw_below_drewN | apply below_drew1 | refine below_set ?_ GE26001.out) | exact HB.out)))); have n3_ := Aside0.mk (blk_below (g := gb26001) (o := .cells #[.int .i64 a0_0, .int .i64 a0_1, .int .i64 a0_2, .slice A0_3 l0_3.length c0_3] 28 (0, 0)) (by (with_reducible repeat (first | refine blk_drewN ?_ _ | refine blk_drew ?_ | refine blk_alloc ?_ _)); exact BK26001.out) hb); have n4_ := Aside0.mk (below_step (by repeat (first | (with_reducible first | exact HB.out | apply below_alloc | apply pw_below_drewN | apply below_drew1 | refine below_set ?_ GE26001.out) | exact HB.out)) hb); clear HO_9; clear HO_10; clear BK26001; clear HB; have HO_9 := n0_; have HO_10 := n1_; have HO26013 := n2_; have BK26001 := n3_; have HB := n4_; clear n0_ n1_ n2_ n3_ n4_; (try clear hb); (try clear hb2); (try clear hk); (try clear hi); (try clear ho0); obtain ⟨Ao58, co58, eo58⟩ := Kd.R_slice HO26013.out; subst eo58) | (go_at_call 65; (with_reducible refine (spec_runsOf.calls k2 _ _ t26011 t26014 _ ?side1 ?side2 A54.out).mono ?_); (case side1 => repeat (first | exact (Kd.R_reads' HO26013.out).2.2 | (with_reducible refine Kd.C_alloc ?_ _) | (with_reducible refine Kd.C_drewN ?_ _) | (with_reducible refine Kd.C_drew ?_))); (case side2 => exact (Kd.R_reads' HO26013.out).2.1); rintro e w59 ⟨v26015, rfl, ho0, hb⟩; have n0_ := Aside0.mk (Kd.R_below (by (with_reducible repeat (first | apply Kd.R_alloc | apply Kd.R_drewN | apply Kd.R_drew)); exact HO_9.out) hb); have n1_ := Aside0.mk (Kd.R_below (by (with_reducible repeat (first | apply Kd.R_alloc | apply Kd.R_drewN | apply Kd.R_drew)); exact HO_10.out) hb); have n2_ := Aside0.mk (Kd.R_below (by (with_reducible repeat (first | apply Kd.R_alloc | apply Kd.R_drewN | apply Kd.R_drew)); exact HO26013.out) hb); have n3_ := Aside0.mk (Kd.R_lower ho0 (below_size (by repeat (first | (with_reducible first | exact HB.out | apply below_alloc | apply pw_below_drewN | apply below_drew1 | refine below_set ?_ GE26001.out) | exact HB.out)))); have n4_ := Aside0.mk (blk_below (g := gb26001) (o := .cells #[.int .i64 a0_0, .int .i64 a0_1, .int .i64 a0_2, .slice A0_3 l0_3.length c0_3] 28 (0, 0)) (by (with_reducible repeat (first | refine blk_drewN ?_ _ | refine blk_drew ?_ | refine blk_alloc ?_ _)); exact BK26001.out) hb); have n5_ := Aside0.mk (below_step (by repeat (first | (with_reducible first | exact HB.out | apply below_alloc | apply pw_below_drewN | apply below_drew1 | refine below_set ?_ GE26001.out) | exact HB.out)) hb); clear HO_9; clear HO_10; clear HO26013; clear BK26001; clear HB; have HO_9 := n0_; have HO_10 := n1_; have HO26013 := n2_; have HO26016 := n3_; have BK26001 := n4_; have HB := n5_; clear n0_ n1_ n2_ n3_ n4_ n5_; (try clear hb); (try clear hb2); (try clear hk); (try clear hi); (try clear ho0)))
                repeat (go_quiet (first | (go_at_call 66; (with_reducible refine (spec_spreadFrom.calls _ _ x9_2 (wrap64 ((wrap64 (a2 * 16)) + a1)) t26011 _ ?side1 ?side2 A53.out).mono ?_); (case side1 => repeat (first | exact (Kd.R_reads' HO_9.out).2.2 | (with_reducible refine Kd.C_alloc ?_ _) | (with_reducible refine Kd.C_drewN ?_ _) | (with_reducible refine Kd.C_drew ?_))); (case side2 => exact (Kd.R_reads' HO_9.out).2.1); rintro e w57 ⟨v26012, rfl, ho0, hb⟩; have n0_ := Aside0.mk (Kd.R_elder' (by (with_reducible repeat (first | apply Kd.R_alloc | apply Kd.R_drewN | apply Kd.R_drew)); exact HO_9.out) (Kd.R_base ho0) hb); have n1_ := Aside0.mk (Kd.R_below (by (with_reducible repeat (first | apply Kd.R_alloc | apply Kd.R_drewN | apply Kd.R_drew)); exact HO_10.out) hb); have n2_ := Aside0.mk (Kd.R_lower (Kd.R_new' ho0 (Kd.R_lt (by (with_reducible repeat (first | apply Kd.R_alloc | apply Kd.R_drewN | apply Kd.R_drew)); exact HO_9.out))) (below_size (by repeat (first | (with_reducible first | exact HB.out | apply below_alloc | apply pw_below_drewN | apply below_drew1 | refine below_set ?_ GE26001.out) | exact HB.out)))); have n3_ := Aside0.mk (blk_below (g := gb26001) (o := .cells #[.int .i64 a0_0, .int .i64 a0_1, .int .i64 a0_2, .slice A0_3 l0_3.length c0_3] 28 (0, 0)) (by (with_reducible repeat (first | refine blk_drewN ?_ _ | refine blk_drew ?_ | refine blk_alloc ?_ _)); exact BK26001.out) hb); have n4_ := Aside0.mk (below_step (by repeat (first | (with_reducible first | exact HB.out | apply below_alloc | apply pw_below_drewN | apply below_drew1 | refine below_set ?_ GE26001.out) | exact HB.out)) hb); clear HO_9; clear HO_10; clear BK26001; clear HB; have HO_9 := n0_; have HO_10 := n1_; have HO26013 := n2_; have BK26001 := n3_; have HB := n4_; clear n0_ n1_ n2_ n3_ n4_; (try clear hb); (try clear hb2); (try clear hk); (try clear hi); (try clear ho0); obtain ⟨Ao58, co58, eo58⟩ := Kd.R_slice HO26013.out; subst eo58) | (go_at_call 65; (with_reducible refine (spec_runsOf.calls k2 _ _ t26011 t26014 _ ?side1 ?side2 A54.out).mono ?_); (case side1 => repeat (first | exact (Kd.R_reads' HO26013.out).2.2 | (with_reducible refine Kd.C_alloc ?_ _) | (with_reducible refine Kd.C_drewN ?_ _) | (with_reducible refine Kd.C_drew ?_))); (case side2 => exact (Kd.R_reads' HO26013.out).2.1); rintro e w59 ⟨v26015, rfl, ho0, hb⟩; have n0_ := Aside0.mk (Kd.R_below (by (with_reducible repeat (first | apply Kd.R_alloc | apply Kd.R_drewN | apply Kd.R_drew)); exact HO_9.out) hb); have n1_ := Aside0.mk (Kd.R_below (by (with_reducible repeat (first | apply Kd.R_alloc | apply Kd.R_drewN | apply Kd.R_drew)); exact HO_10.out) hb); have n2_ := Aside0.mk (Kd.R_below (by (with_reducible repeat (first | apply Kd.R_alloc | apply Kd.R_drewN | apply Kd.R_drew)); exact HO26013.out) hb); have n3_ := Aside0.mk (Kd.R_lower ho0 (below_size (by repeat (first | (with_reducible first | exact HB.out | apply below_alloc | apply pw_below_drewN | apply below_drew1 | refine below_set ?_ GE26001.out) | exact HB.out)))); have n4_ := Aside0.mk (blk_below (g := gb26001) (o := .cells #[.int .i64 a0_0, .int .i64 a0_1, .int .i64 a0_2, .slice A0_3 l0_3.length c0_3] 28 (0, 0)) (by (with_reducible repeat (first | refine blk_drewN ?_ _ | refine blk_drew ?_ | refine blk_alloc ?_ _)); exact BK26001.out) hb); have n5_ := Aside0.mk (below_step (by repeat (first | (with_reducible first | exact HB.out | apply below_alloc | apply pw_below_drewN | apply below_drew1 | refine below_set ?_ GE26001.out) | exact HB.out)) hb); clear HO_9; clear HO_10; clear HO26013; clear BK26001; clear HB; have HO_9 := n0_; have HO_10 := n1_; have HO26013 := n2_; have HO26016 := n3_; have BK26001 := n4_; have HB := n5_; clear n0_ n1_ n2_ n3_ n4_ n5_; (try clear hb); (try clear hb2); (try clear hk); (try clear hi); (try clear ho0))); try go_wp2_with (first | (go_at_call 66; (with_reducible refine (spec_spreadFrom.calls _ _ x9_2 (wrap64 ((wrap64 (a2 * 16)) + a1)) t26011 _ ?side1 ?side2 A53.out).mono ?_); (case side1 => repeat (first | exact (Kd.R_reads' HO_9.out).2.2 | (with_reducible refine Kd.C_alloc ?_ _) | (with_reducible refine Kd.C_drewN ?_ _) | (with_reducible refine Kd.C_drew ?_))); (case side2 => exact (Kd.R_reads' HO_9.out).2.1); rintro e w57 ⟨v26012, rfl, ho0, hb⟩; have n0_ := Aside0.mk (Kd.R_elder' (by (with_reducible repeat (first | apply Kd.R_alloc | apply Kd.R_drewN | apply Kd.R_drew)); exact HO_9.out) (Kd.R_base ho0) hb); have n1_ := Aside0.mk (Kd.R_below (by (with_reducible repeat (first | apply Kd.R_alloc | apply Kd.R_drewN | apply Kd.R_drew)); exact HO_10.out) hb); have n2_ := Aside0.mk (Kd.R_lower (Kd.R_new' ho0 (Kd.R_lt (by (with_reducible repeat (first | apply Kd.R_alloc | apply Kd.R_drewN | apply Kd.R_drew)); exact HO_9.out))) (below_size (by repeat (first | (with_reducible first | exact HB.out | apply below_alloc | apply pw_below_drewN | apply below_drew1 | refine below_set ?_ GE26001.out) | exact HB.out)))); have n3_ := Aside0.mk (blk_below (g := gb26001) (o := .cells #[.int .i64 a0_0, .int .i64 a0_1, .int .i64 a0_2, .slice A0_3 l0_3.length c0_3] 28 (0, 0)) (by (with_reducible repeat (first | refine blk_drewN ?_ _ | refine blk_drew ?_ | refine blk_alloc ?_ _)); exact BK26001.out) hb); have n4_ := Aside0.mk (below_step (by repeat (first | (with_reducible first | exact HB.out | apply below_alloc | apply pw_below_drewN | apply below_drew1 | refine below_set ?_ GE26001.out) | exact HB.out)) hb); clear HO_9; clear HO_10; clear BK26001; clear HB; have HO_9 := n0_; have HO_10 := n1_; have HO26013 := n2_; have BK26001 := n3_; have HB := n4_; clear n0_ n1_ n2_ n3_ n4_; (try clear hb); (try clear hb2); (try clear hk); (try clear hi); (try clear ho0); obtain ⟨Ao58, co58, eo58⟩ := Kd.R_slice HO26013.out; subst eo58) | (go_at_call 65; (with_reducible refine (spec_runsOf.calls k2 _ _ t26011 t26014 _ ?side1 ?side2 A54.out).mono ?_); (case side1 => repeat (first | exact (Kd.R_reads' HO26013.out).2.2 | (with_reducible refine Kd.C_alloc ?_ _) | (with_reducible refine Kd.C_drewN ?_ _) | (with_reducible refine Kd.C_drew ?_))); (case side2 => exact (Kd.R_reads' HO26013.out).2.1); rintro e w59 ⟨v26015, rfl, ho0, hb⟩; have n0_ := Aside0.mk (Kd.R_below (by (with_reducible repeat (first | apply Kd.R_alloc | apply Kd.R_drewN | apply Kd.R_drew)); exact HO_9.out) hb); have n1_ := Aside0.mk (Kd.R_below (by (with_reducible repeat (first | apply Kd.R_alloc | apply Kd.R_drewN | apply Kd.R_drew)); exact HO_10.out) hb); have n2_ := Aside0.mk (Kd.R_below (by (with_reducible repeat (first | apply Kd.R_alloc | apply Kd.R_drewN | apply Kd.R_drew)); exact HO26013.out) hb); have n3_ := Aside0.mk (Kd.R_lower ho0 (below_size (by repeat (first | (with_reducible first | exact HB.out | apply below_alloc | apply pw_below_drewN | apply below_drew1 | refine below_set ?_ GE26001.out) | exact HB.out)))); have n4_ := Aside0.mk (blk_below (g := gb26001) (o := .cells #[.int .i64 a0_0, .int .i64 a0_1, .int .i64 a0_2, .slice A0_3 l0_3.length c0_3] 28 (0, 0)) (by (with_reducible repeat (first | refine blk_drewN ?_ _ | refine blk_drew ?_ | refine blk_alloc ?_ _)); exact BK26001.out) hb); have n5_ := Aside0.mk (below_step (by repeat (first | (with_reducible first | exact HB.out | apply below_alloc | apply pw_below_drewN | apply below_drew1 | refine below_set ?_ GE26001.out) | exact HB.out)) hb); clear HO_9; clear HO_10; clear HO26013; clear BK26001; clear HB; have HO_9 := n0_; have HO_10 := n1_; have HO26013 := n2_; have HO26016 := n3_; have BK26001 := n4_; have HB := n5_; clear n0_ n1_ n2_ n3_ n4_ n5_; (try clear hb); (try clear hb2); (try clear hk); (try clear hi); (try clear ho0))))
                go_ret
                exact ⟨_, by first | rfl | (simp [errW_none, errW_some] <;> rfl) | (simp [*, errW_none, errW_some] <;> rfl), by (with_reducible repeat (first | apply Kd.R_alloc | apply Kd.R_drewN | apply Kd.R_drew)); exact HO26016.out, by repeat (first | (with_reducible first | exact HB.out | apply below_alloc | apply pw_below_drewN | apply below_drew1 | refine below_set ?_ GE26001.out) | exact HB.out)⟩
        · rw [if_neg c23] at H
          exact absurd H (by simp)

end Go.Proofs.Ytbgohbinonkhfaa.Q

namespace Go.Proofs.Ytbgohbinonkhfaa.Q
open Go.RowKit Go.Proofs.YtbgohbinonkhfaaW.PrintWords Go.Proofs.YtbgohbinonkhfaaW.PrintLast Go.Proofs.YtbgohbinonkhfaaW.PrintMore
attribute [local go_sem] max2_int min2_int max_two min_two max_three min_three max_four min_four
set_option linter.unusedVariables false
set_option linter.unusedSimpArgs false
/-! ### slices_Equal_int_int: function 94 -/
def slices_Equal_int_int.l0 : Nat → List Int → List Int → Int → Int → Option (Bool)
  | 0, _, _, _, _ => none
  | k + 1, x0, x1, x12, x13 => if x13 < x12 then (if 0 ≤ x13 then (if x13 < (x0.length : Int) then (if x13 < (x1.length : Int) then (if (rd x0 x13) = (rd x1 x13) then (slices_Equal_int_int.l0 k x0 x1 x12 (wrap64 (x13 + 1))) else (some false)) else (none)) else (none)) else (none)) else (some true)
def slices_Equal_int_int.f (k : Nat) (l0 : List Int) (l1 : List Int) : Option (Bool) := if (l0.length : Int) = (l1.length : Int) then (slices_Equal_int_int.l0 k l0 l1 (l0.length : Int) 0) else (some false)
theorem slices_Equal_int_int.mono_l : ∀ k, (∀ y0 y1 y2 y3, LeO (slices_Equal_int_int.l0 k y0 y1 y2 y3) (slices_Equal_int_int.l0 (k + 1) y0 y1 y2 y3))
  | 0 => fun _ _ _ _ r h => by simp [slices_Equal_int_int.l0] at h
  | k + 1 => by
    have ih0 := slices_Equal_int_int.mono_l k
    · intro y0 y1 y2 y3
      unfold slices_Equal_int_int.l0
      repeat' first
      | (with_reducible exact ih0 _ _ _ _)
      | (with_reducible exact LeO.refl _)
      | (with_reducible exact LeO.none _)
      | (with_reducible refine LeO.ite ?_ ?_)
      | (with_reducible refine LeO.bind ?_ (fun _ => ?_))
      | exact ih0 _ _ _ _
      | exact LeO.none _
      | refine LeO.ite ?_ ?_
      | refine LeO.bind ?_ (fun _ => ?_)
theorem slices_Equal_int_int.mono : ∀ a0 a1 k, LeO (slices_Equal_int_int.f k a0 a1) (slices_Equal_int_int.f (k + 1) a0 a1) := by
  intro a0 a1 k
  have ih0 := slices_Equal_int_int.mono_l k
  unfold slices_Equal_int_int.f
  repeat' first
      | (with_reducible exact ih0 _ _ _ _)
      | (with_reducible exact LeO.refl _)
      | (with_reducible exact LeO.none _)
      | (with_reducible refine LeO.ite ?_ ?_)
      | (with_reducible refine LeO.bind ?_ (fun _ => ?_))
      | exact ih0 _ _ _ _
      | exact LeO.none _
      | refine LeO.ite ?_ ?_
      | refine LeO.bind ?_ (fun _ => ?_)
set_option maxHeartbeats 8000000 in
set_option maxRecDepth 100000 in
theorem slices_Equal_int_int.calls (k : Nat) (A0 : Option Addr) (c0 : Nat) (l0 : List Int) (A1 : Option Addr) (c1 : Nat) (l1 : List Int) (r : Bool) (w : World) (hr0 : Kd.C (Kd.int .i64) w A0 l0.length l0) (hc0 : l0.length ≤ c0) (hr1 : Kd.C (Kd.int .i64) w A1 l1.length l1) (hc1 : l1.length ≤ c1) (h : slices_Equal_int_int.f k l0 l1 = some r) :
    Calls Try.prog 94 #[.slice A0 l0.length c0, .slice A1 l1.length c1] w fun e w' => e = .returned (.bool r) ∧ Drawn0 w w' := by
  have HR0 := Aside0.mk hr0
  have HC0 := Aside0.mk hc0
  clear hr0 hc0
  have HR1 := Aside0.mk hr1
  have HC1 := Aside0.mk hc1
  clear hr1 hc1
  have H : (if (l0.length : Int) = (l1.length : Int) then (slices_Equal_int_int.l0 k l0 l1 (l0.length : Int) 0) else (some false)) = some r := h
  clear h
  by_cases c3 : (l0.length : Int) = (l1.length : Int)
  · rw [if_pos c3] at H
    have c3b0 : ((l0.length : Int) == (l1.length : Int)) = true := beq_iff_eq.mpr c3
    have c3b1 : ((l0.length : Int) != (l1.length : Int)) = false := bne_eq_false_iff_eq.mpr c3
    have c3b2 : (l0.length == l1.length) = true := by first | simpa using c3 | (simp at c3 ⊢; omega)
    clear c3
    have H' := Aside0.mk H
    clear H
    go_enter Try.func94, Try.ntmps94
    go_wp2
    repeat (go_quiet (fail); try go_wp2)
    go_loopg [13] k (fun kq v13 w' => ∃ (x13_1 : Int), v13 = .int .i64 x13_1 ∧ Aside0 (slices_Equal_int_int.l0 kq l0 l1 (l0.length : Int) x13_1 = some r) ∧ Aside0 (kq ≤ k) ∧ Drawn0 w w')
    case atStart => exact ⟨(0), (by first | rfl | (simp; done) | (simp [*]; done)), H', ⟨Nat.le_refl _⟩, by repeat (first | exact Drawn0.refl _ | apply Drawn0.step)⟩
    case round =>
      clear H'
      try clear c1
      try clear p2
      try clear c3
      try clear c3b0
      try clear c3b1
      try clear c3b2
      obtain ⟨x13_1, rfl, HA, HK1, ⟨m1, rfl⟩⟩ := hrel
      cases gk with
      | zero => exact absurd HA.out (by simp [slices_Equal_int_int.l0])
      | succ k1 =>
        have H := HA.out
        clear HA
        simp only [slices_Equal_int_int.l0] at H
        by_cases c4 : x13_1 < (l0.length : Int)
        · rw [if_pos c4] at H
          have c4b0 : decide (x13_1 < (l0.length : Int)) = true := decide_eq_true c4
          clear c4
          by_cases c5 : 0 ≤ x13_1
          · rw [if_pos c5] at H
            have c5b0 : decide (0 ≤ x13_1) = true := decide_eq_true c5
            clear c5
            by_cases c6 : x13_1 < (l0.length : Int)
            · rw [if_pos c6] at H
              have c6b0 : decide (x13_1 < (l0.length : Int)) = true := decide_eq_true c6
              clear c6
              by_cases c7 : x13_1 < (l1.length : Int)
              · rw [if_pos c7] at H
                have c7b0 : decide (x13_1 < (l1.length : Int)) = true := decide_eq_true c7
                clear c7
                by_cases c8 : (rd l0 x13_1) = (rd l1 x13_1)
                · rw [if_pos c8] at H
                  have c8b0 : ((rd l0 x13_1) == (rd l1 x13_1)) = true := beq_iff_eq.mpr c8
                  have c8b1 : ((rd l0 x13_1) != (rd l1 x13_1)) = false := bne_eq_false_iff_eq.mpr c8
                  clear c8
                  have H' := Aside0.mk H
                  clear H
                  have p95001 : 0 ≤ (x13_1 : Int) := of_decide_eq_true (by first | (with_reducible assumption) | assumption)
                  have q95001 : x13_1 < (l0.length : Int) := of_decide_eq_true (by first | (with_reducible assumption) | assumption)
                  obtain ⟨ad95001, e95001, hx95001_0⟩ := Kd.at_int HR0.out x13_1 p95001 q95001
                  cases e95001
                  replace p95001 := eq_true p95001
                  replace q95001 := eq_true q95001
                  have p95002 : 0 ≤ (x13_1 : Int) := of_decide_eq_true (by first | (with_reducible assumption) | assumption)
                  have q95002 : x13_1 < (l1.length : Int) := of_decide_eq_true (by first | (with_reducible assumption) | assumption)
                  obtain ⟨ad95002, e95002, hx95002_0⟩ := Kd.at_int HR1.out x13_1 p95002 q95002
                  cases e95002
                  replace p95002 := eq_true p95002
                  replace q95002 := eq_true q95002
                  go_wp2
                  repeat (go_quiet (fail); try go_wp2)
                  go_roundg k1
                  case measure => have := HK1.out; omega
                  case rel => exact ⟨(wrap64 (x13_1 + 1)), (by first | rfl | (simp; done) | (simp [*]; done)), H', ⟨by have := HK1.out; omega⟩, by repeat (first | exact Drawn0.refl _ | apply Drawn0.step)⟩
                · rw [if_neg c8] at H
                  have c8b0 : ((rd l0 x13_1) == (rd l1 x13_1)) = false := beq_eq_false_iff_ne.mpr c8
                  have c8b1 : ((rd l0 x13_1) != (rd l1 x13_1)) = true := bne_iff_ne.mpr c8
                  obtain rfl := Option.some.inj H
                  have p95001 : 0 ≤ (x13_1 : Int) := of_decide_eq_true (by first | (with_reducible assumption) | assumption)
                  have q95001 : x13_1 < (l0.length : Int) := of_decide_eq_true (by first | (with_reducible assumption) | assumption)
                  obtain ⟨ad95001, e95001, hx95001_0⟩ := Kd.at_int HR0.out x13_1 p95001 q95001
                  cases e95001
                  replace p95001 := eq_true p95001
                  replace q95001 := eq_true q95001
                  have p95002 : 0 ≤ (x13_1 : Int) := of_decide_eq_true (by first | (with_reducible assumption) | assumption)
                  have q95002 : x13_1 < (l1.length : Int) := of_decide_eq_true (by first | (with_reducible assumption) | assumption)
                  obtain ⟨ad95002, e95002, hx95002_0⟩ := Kd.at_int HR1.out x13_1 p95002 q95002
                  cases e95002
                  replace p95002 := eq_true p95002
                  replace q95002 := eq_true q95002
                  go_wp2
                  repeat (go_quiet (fail); try go_wp2)
                  go_ret
                  exact ⟨by first | rfl | (simp; done) | (simp [*]; done), by repeat (first | exact Drawn0.refl _ | apply Drawn0.step)⟩
              · rw [if_neg c7] at H
                exact absurd H (by simp)
            · rw [if_neg c6] at H
              exact absurd H (by simp)
          · rw [if_neg c5] at H
            exact absurd H (by simp)
        · rw [if_neg c4] at H
          have c4b0 : decide (x13_1 < (l0.length : Int)) = false := decide_eq_false c4
          clear c4
          obtain rfl := Option.some.inj H
          go_wp2
          repeat (go_quiet (fail); try go_wp2)
          go_ret
          exact ⟨by first | rfl | (simp; done) | (simp [*]; done), by repeat (first | exact Drawn0.refl _ | apply Drawn0.step)⟩
  · rw [if_neg c3] at H
    have c3b0 : ((l0.length : Int) == (l1.length : Int)) = false := beq_eq_false_iff_ne.mpr c3
    have c3b1 : ((l0.length : Int) != (l1.length : Int)) = true := bne_iff_ne.mpr c3
    have c3b2 : (l0.length == l1.length) = false := by first | simpa using c3 | (simp at c3 ⊢; omega)
    obtain rfl := Option.some.inj H
    go_enter Try.func94, Try.ntmps94
    go_wp2
    repeat (go_quiet (fail); try go_wp2)
    go_ret
    exact ⟨by first | rfl | (simp; done) | (simp [*]; done), by repeat (first | exact Drawn0.refl _ | apply Drawn0.step)⟩

end Go.Proofs.Ytbgohbinonkhfaa.Q

/- impl.changed: the region of the pixels at which two images differ. -/
namespace Go.Proofs.Ytbgohbinonkhfaa.Q
open Go.RowKit Go.Proofs.YtbgohbinonkhfaaW.PrintWords Go.Proofs.YtbgohbinonkhfaaW.PrintLast Go.Proofs.YtbgohbinonkhfaaW.PrintMore
attribute [local go_sem] max2_int min2_int max_two min_two max_three min_three max_four min_four
set_option linter.unusedVariables false
set_option linter.unusedSimpArgs false
open Go.Proofs.Ytbgohbinonkhfaa.Pure

theorem yieldsC_img {ops : Array Oper} {S : World → Prop} {op : Oper} {a : Act} (hw : Region.wanted op (yielded ops a.tmps) = true) (x : Operand) (ho : op.op = .load 28 x)
    (B : Nat) (hx : a.eval x = .pointer (some ⟨B, 0, none⟩)) (cs : Array Value) (hS : ∀ w, S w → w.heap[B]? = some (.cells cs 28 (0, 0))) (hn : cs.size = 4) : YieldsIf Try.prog ops S op (.agg cs) a :=
  .inl ⟨hw, fun w hw' => by
    unfold execOp
    simp only [ho, hx, Instr.loadAt, Instr.sureAddr, Sem.run_bind, Sem.run_pure, Result.andThen_ok, run_loadVar_row w B 28 28 cs (0, 0) _ (hS w hw') Try.underlying28 rfl (by rw [hn]; kernel_rfl)]⟩
theorem yieldsC_int {ops : Array Oper} {S : World → Prop} {op : Oper} {a : Act} (hw : Region.wanted op (yielded ops a.tmps) = true) (x : Operand) (ho : op.op = .load 3 x)
    (ad : Addr) (hx : a.eval x = .pointer (some ad)) (v : Int) (hS : ∀ w, S w → w.cell? ad = some (.int .i64 v)) : YieldsIf Try.prog ops S op (.int .i64 v) a :=
  .inl ⟨hw, fun w hw' => by
    have h := hS w hw'
    unfold execOp
    simp only [ho, hx]
    go_simp⟩
theorem equalI (l m : List Int) (hl : l.length ≤ 1000000) (k : Nat) (hk : l.length < k) : slices_Equal_int_int.f k l m = some (decide (l = m)) := by
  unfold slices_Equal_int_int.f
  by_cases hn : l.length = m.length
  · rw [if_pos (by omega)]
    have key := loop_up 0 l.length (fun k i (_ : Unit) => slices_Equal_int_int.l0 k l m (l.length : Int) (i : Int)) (fun _ _ => True) (fun i _ => decide (l.drop i = m.drop i))
      (by
        intro i s k hi _ _
        have e1 := List.drop_eq_getElem_cons hi
        have e2 := List.drop_eq_getElem_cons (show i < m.length by omega)
        by_cases c : l[i] = m[i]'(by omega)
        · refine .inr ⟨(), ?_, trivial, ?_⟩
          · simp only [slices_Equal_int_int.l0]
            rw [if_pos (by omega), if_pos (by omega), if_pos (by omega), if_pos (by omega), rd_nat l i hi, rd_nat m i (by omega), if_pos c, w64n i (by omega)]
          · rw [e1, e2, decide_eq_decide, List.cons.injEq]
            exact ⟨fun h => ⟨c, h⟩, fun h => h.2⟩
        · left
          simp only [slices_Equal_int_int.l0]
          rw [if_pos (by omega), if_pos (by omega), if_pos (by omega), if_pos (by omega), rd_nat l i hi, rd_nat m i (by omega), if_neg c, e1, e2, decide_eq_false (by rw [List.cons.injEq]; exact fun h => c h.1)])
      (by
        intro s k _ _
        simp only [slices_Equal_int_int.l0]
        rw [if_neg (by omega), List.drop_length, hn, List.drop_length]
        rfl)
      l.length 0 () k (by omega) trivial (by omega)
    simpa using key
  · rw [if_neg (by omega), decide_eq_false (fun h => hn (by rw [h]))]
def chg (a b p : Int) (d1 d2 : List Int) (x y : Nat) : Bool := decide ((x : Int) < a) && (decide ((y : Int) < b) && !(decide (pixT d1 (pixJ a p x y) p = pixT d2 (pixJ a p x y) p)))
theorem chg_in (a b p : Int) (d1 d2 : List Int) (x y : Nat) (hx : (x : Int) < a) (hy : (y : Int) < b) : chg a b p d1 d2 x y = !(decide (pixT d1 (pixJ a p x y) p = pixT d2 (pixJ a p x y) p)) := by
  unfold chg; rw [decide_eq_true hx, decide_eq_true hy, Bool.true_and, Bool.true_and]

set_option maxHeartbeats 4000000 in
set_option maxRecDepth 100000 in
theorem changed1_calls (a b p : Int) (A1 A2 : Option Addr) (c1 c2 : Nat) (d1 d2 : List Int) (hv1 : validI a b p d1 = true) (hv2 : validI a b p d2 = true) (hc1 : d1.length ≤ c1) (hc2 : d2.length ≤ c2) (x y : Nat) (hx : x < 16) (hy : y < 16) (B1 B2 : Nat) (w : World)
    (h1 : w.heap[B1]? = some (.cells #[.int .i64 a, .int .i64 b, .int .i64 p, .slice A1 d1.length c1] 28 (0, 0))) (h2 : w.heap[B2]? = some (.cells #[.int .i64 a, .int .i64 b, .int .i64 p, .slice A2 d2.length c2] 28 (0, 0)))
    (hr1 : Kd.C (Kd.int .i64) w A1 d1.length d1) (hr2 : Kd.C (Kd.int .i64) w A2 d2.length d2) :
    Calls Try.prog 93 #[.int .i64 (x : Int), .int .i64 (y : Int), .pointer (some ⟨B1, 0, none⟩), .pointer (some ⟨B2, 0, none⟩)] w fun e w' => e = .returned (.bool (chg a b p d1 d2 x y)) ∧ Below w.heap.size w w' := by
  have HB1 := Aside0.mk h1
  have HB2 := Aside0.mk h2
  have HR1 := Aside0.mk hr1
  have HR2 := Aside0.mk hr2
  by_cases cx : (x : Int) < a
  · have dx : decide ((x : Int) < a) = true := decide_eq_true cx
    by_cases cy : (y : Int) < b
    · have dy : decide ((y : Int) < b) = true := decide_eq_true cy
      obtain ⟨j, hj⟩ : ∃ j, pixJ a p x y = j := ⟨_, rfl⟩
      have hb1 := pixJ_is hv1 cx cy
      have hb2 := pixJ_is hv2 cx cy
      have hpp := ((validI_iff a b p d1).1 hv1).1
      rw [hj] at hb1 hb2
      have hw : wrap64 (j + p) = j + p := w64 (by omega) (by omega)
      obtain ⟨P1, q1, hq1, HA1⟩ := at_calls a b p A1 c1 d1 (x : Int) (y : Int) j hc1 hj (by omega) (by omega) (by omega)
      obtain ⟨P2, q2, hq2, HA2⟩ := at_calls a b p A2 c2 d2 (x : Int) (y : Int) j hc2 hj (by omega) (by omega) (by omega)
      have HP1 := Aside0.mk (HA1 w hr1).1
      have HP2 := Aside0.mk (HA2 w hr2).1
      replace HA1 := Aside0.mk HA1
      replace HA2 := Aside0.mk HA2
      have hlen : (pixT d1 j p).length ≤ 1000000 := by
        unfold pixT
        rw [List.length_drop, List.length_take]
        omega
      have HQ := Aside0.mk (fun (W : World) (k1 : Kd.C (Kd.int .i64) W P1 (pixT d1 j p).length (pixT d1 j p)) (k2 : Kd.C (Kd.int .i64) W P2 (pixT d2 j p).length (pixT d2 j p)) => slices_Equal_int_int.calls _ P1 q1 (pixT d1 j p) P2 q2 (pixT d2 j p) _ W k1 hq1 k2 hq2 (equalI _ _ hlen ((pixT d1 j p).length + 1) (by omega)))
      have HJ := Aside0.mk hj
      have HX := Aside0.mk cx
      have HY := Aside0.mk cy
      clear hb1 hb2 hpp hw hq1 hq2 hlen hv1 hv2 hj cx cy h1 h2 hr1 hr2
      go_enter Try.func93, Try.ntmps93
      go_wp2
      refine wp_region_held_drew (S := fun W => Aside0 (Below w.heap.size w W)) (by kernel_rfl) ⟨below_drew (Below.refl _ _)⟩ (fun hH => ?_)
      obtain ⟨W0, hW0⟩ : ∃ W, W = w.drew := ⟨_, rfl⟩
      rw [← hW0] at hH ⊢
      clear hW0
      refine wpAnyH_take (i := 0) (v := .int .i64 (x : Int)) rfl (by kernel_rfl) (by kernel_rfl) (by kernel_rfl) (fun _ _ _ h => h) (.inl ⟨by kernel_rfl, fun W hW => by first | (go_simp; done) | (go_simp; intro h_; omega)⟩) hH ?_
      simp only [Act.put, List.setIfInBounds_toArray, List.set_cons_zero, List.set_cons_succ, List.getElem_toArray, List.getElem_cons_zero, List.getElem_cons_succ]
      refine wpAnyH_take (i := 1) (v := .pointer (some ⟨B1, 0, none⟩)) rfl (by kernel_rfl) (by kernel_rfl) (by kernel_rfl) (fun _ _ _ h => h) (.inl ⟨by kernel_rfl, fun W hW => by first | (go_simp; done) | (go_simp; intro h_; omega)⟩) hH ?_
      simp only [Act.put, List.setIfInBounds_toArray, List.set_cons_zero, List.set_cons_succ, List.getElem_toArray, List.getElem_cons_zero, List.getElem_cons_succ]
      refine wpAnyH_take (i := 2) rfl (by kernel_rfl) (by kernel_rfl) (by kernel_rfl) (fun _ _ _ h => h) (yieldsC_int (by kernel_rfl) _ rfl ⟨B1, 0, none⟩ rfl a (fun W hW => (blk_cell (blk_below HB1.out hW.out) 0).trans rfl)) hH ?_
      simp only [Act.put, List.setIfInBounds_toArray, List.set_cons_zero, List.set_cons_succ, List.getElem_toArray, List.getElem_cons_zero, List.getElem_cons_succ]
      refine wpAnyH_take (i := 3) (v := .bool true) rfl (by kernel_rfl) (by kernel_rfl) (by kernel_rfl) (fun _ _ _ h => h) (.inl ⟨by kernel_rfl, fun W hW => by first | (go_simp; done) | (go_simp; intro h_; omega)⟩) hH ?_
      simp only [Act.put, List.setIfInBounds_toArray, List.set_cons_zero, List.set_cons_succ, List.getElem_toArray, List.getElem_cons_zero, List.getElem_cons_succ]
      refine wpAnyH_take (i := 4) (v := .bool true) rfl (by kernel_rfl) (by kernel_rfl) (by kernel_rfl) (fun _ _ _ h => h) (.inl ⟨by kernel_rfl, fun W hW => by first | (go_simp; done) | (go_simp; intro h_; omega)⟩) hH ?_
      simp only [Act.put, List.setIfInBounds_toArray, List.set_cons_zero, List.set_cons_succ, List.getElem_toArray, List.getElem_cons_zero, List.getElem_cons_succ]
      refine wpAnyH_take (i := 5) (v := .int .i64 (y : Int)) rfl (by kernel_rfl) (by kernel_rfl) (by kernel_rfl) (fun _ _ _ h => h) (.inl ⟨by kernel_rfl, fun W hW => by first | (go_simp; done) | (go_simp; intro h_; omega)⟩) hH ?_
      simp only [Act.put, List.setIfInBounds_toArray, List.set_cons_zero, List.set_cons_succ, List.getElem_toArray, List.getElem_cons_zero, List.getElem_cons_succ]
      refine wpAnyH_take (i := 6) (v := .pointer (some ⟨B1, 1, none⟩)) rfl (by kernel_rfl) (by kernel_rfl) (by kernel_rfl) (fun _ _ _ h => h) (.inl ⟨by kernel_rfl, fun W hW => by first | (go_simp; done) | (go_simp; intro h_; omega)⟩) hH ?_
      simp only [Act.put, List.setIfInBounds_toArray, List.set_cons_zero, List.set_cons_succ, List.getElem_toArray, List.getElem_cons_zero, List.getElem_cons_succ]
      refine wpAnyH_take (i := 7) rfl (by kernel_rfl) (by kernel_rfl) (by kernel_rfl) (fun _ _ _ h => h) (yieldsC_int (by kernel_rfl) _ rfl ⟨B1, 1, none⟩ rfl b (fun W hW => (blk_cell (blk_below HB1.out hW.out) 1).trans rfl)) hH ?_
      simp only [Act.put, List.setIfInBounds_toArray, List.set_cons_zero, List.set_cons_succ, List.getElem_toArray, List.getElem_cons_zero, List.getElem_cons_succ]
      refine wpAnyH_take (i := 8) (v := .bool true) rfl (by kernel_rfl) (by kernel_rfl) (by kernel_rfl) (fun _ _ _ h => h) (.inl ⟨by kernel_rfl, fun W hW => by first | (go_simp; done) | (go_simp; intro h_; omega)⟩) hH ?_
      simp only [Act.put, List.setIfInBounds_toArray, List.set_cons_zero, List.set_cons_succ, List.getElem_toArray, List.getElem_cons_zero, List.getElem_cons_succ]
      refine wpAnyH_take (i := 9) (v := .bool true) rfl (by kernel_rfl) (by kernel_rfl) (by kernel_rfl) (fun _ _ _ h => h) (.inl ⟨by kernel_rfl, fun W hW => by first | (go_simp; done) | (go_simp; intro h_; omega)⟩) hH ?_
      simp only [Act.put, List.setIfInBounds_toArray, List.set_cons_zero, List.set_cons_succ, List.getElem_toArray, List.getElem_cons_zero, List.getElem_cons_succ]
      refine wpAnyH_take (i := 10) (v := .bool true) rfl (by kernel_rfl) (by kernel_rfl) (by kernel_rfl) (fun _ _ _ h => h) (.inl ⟨by kernel_rfl, fun W hW => by first | (go_simp; done) | (go_simp; intro h_; omega)⟩) hH ?_
      simp only [Act.put, List.setIfInBounds_toArray, List.set_cons_zero, List.set_cons_succ, List.getElem_toArray, List.getElem_cons_zero, List.getElem_cons_succ]
      refine wpAnyH_take (i := 11) rfl (by kernel_rfl) (by kernel_rfl) (by kernel_rfl) (fun _ _ _ h => h) (yieldsC_img (by kernel_rfl) _ rfl B1 rfl #[.int .i64 a, .int .i64 b, .int .i64 p, .slice A1 d1.length c1] (fun W hW => blk_below HB1.out hW.out) rfl) hH ?_
      simp only [Act.put, List.setIfInBounds_toArray, List.set_cons_zero, List.set_cons_succ, List.getElem_toArray, List.getElem_cons_zero, List.getElem_cons_succ]
      refine wpAnyH_take (i := 12) (v := .int .i64 (x : Int)) rfl (by kernel_rfl) (by kernel_rfl) (by kernel_rfl) (fun _ _ _ h => h) (.inl ⟨by kernel_rfl, fun W hW => by first | (go_simp; done) | (go_simp; intro h_; omega)⟩) hH ?_
      simp only [Act.put, List.setIfInBounds_toArray, List.set_cons_zero, List.set_cons_succ, List.getElem_toArray, List.getElem_cons_zero, List.getElem_cons_succ]
      refine wpAnyH_take (i := 13) (v := .int .i64 (y : Int)) rfl (by kernel_rfl) (by kernel_rfl) (by kernel_rfl) (fun _ _ _ h => h) (.inl ⟨by kernel_rfl, fun W hW => by first | (go_simp; done) | (go_simp; intro h_; omega)⟩) hH ?_
      simp only [Act.put, List.setIfInBounds_toArray, List.set_cons_zero, List.set_cons_succ, List.getElem_toArray, List.getElem_cons_zero, List.getElem_cons_succ]
      refine wpAnyH_take (i := 15) rfl (by kernel_rfl) (by kernel_rfl) (by kernel_rfl) (fun _ _ _ h => h) (yieldsC_img (by kernel_rfl) _ rfl B2 rfl #[.int .i64 a, .int .i64 b, .int .i64 p, .slice A2 d2.length c2] (fun W hW => blk_below HB2.out hW.out) rfl) hH ?_
      simp only [Act.put, List.setIfInBounds_toArray, List.set_cons_zero, List.set_cons_succ, List.getElem_toArray, List.getElem_cons_zero, List.getElem_cons_succ]
      refine wpAnyH_take (i := 16) (v := .int .i64 (x : Int)) rfl (by kernel_rfl) (by kernel_rfl) (by kernel_rfl) (fun _ _ _ h => h) (.inl ⟨by kernel_rfl, fun W hW => by first | (go_simp; done) | (go_simp; intro h_; omega)⟩) hH ?_
      simp only [Act.put, List.setIfInBounds_toArray, List.set_cons_zero, List.set_cons_succ, List.getElem_toArray, List.getElem_cons_zero, List.getElem_cons_succ]
      refine wpAnyH_take (i := 17) (v := .int .i64 (y : Int)) rfl (by kernel_rfl) (by kernel_rfl) (by kernel_rfl) (fun _ _ _ h => h) (.inl ⟨by kernel_rfl, fun W hW => by first | (go_simp; done) | (go_simp; intro h_; omega)⟩) hH ?_
      simp only [Act.put, List.setIfInBounds_toArray, List.set_cons_zero, List.set_cons_succ, List.getElem_toArray, List.getElem_cons_zero, List.getElem_cons_succ]
      refine wpAnyH_ready (rs := [14]) (by kernel_rfl) (by simp) ?_
      refine AllReadyH.cons (i := 14) rfl ?_ AllReadyH.nil
      intro K hK
      rw [if_pos (by rfl)]
      go_simp
      go_wp2_with (first | (go_at_call 59; (with_reducible refine ((HA1.out _ (Kd.C_below HR1.out hH.out)).2).mono ?_); rintro e W1 ⟨rfl, hb⟩))
      refine hK.out _ _ ⟨below_then hH.out hH.out.size hb⟩ (fun hH1 => ?_)
      clear hK K hb hH
      have hH := hH1
      clear hH1
      try simp only [Act.put, List.setIfInBounds_toArray, List.set_cons_zero, List.set_cons_succ, List.getElem_toArray, List.getElem_cons_zero, List.getElem_cons_succ]
      refine wpAnyH_ready (rs := [18]) (by kernel_rfl) (by simp) ?_
      refine AllReadyH.cons (i := 18) rfl ?_ AllReadyH.nil
      intro K hK
      rw [if_pos (by rfl)]
      go_simp
      go_wp2_with (first | (go_at_call 59; (with_reducible refine ((HA2.out _ (Kd.C_below HR2.out hH.out)).2).mono ?_); rintro e W1 ⟨rfl, hb⟩))
      refine hK.out _ _ ⟨below_then hH.out hH.out.size hb⟩ (fun hH1 => ?_)
      clear hK K hb hH
      have hH := hH1
      clear hH1
      try simp only [Act.put, List.setIfInBounds_toArray, List.set_cons_zero, List.set_cons_succ, List.getElem_toArray, List.getElem_cons_zero, List.getElem_cons_succ]
      refine wpAnyH_ready (rs := [19]) (by kernel_rfl) (by simp) ?_
      refine AllReadyH.cons (i := 19) rfl ?_ AllReadyH.nil
      intro K hK
      rw [if_pos (by rfl)]
      go_simp
      go_wp2_with (first | (go_at_call 94; (with_reducible refine (HQ.out _ (Kd.C_below HP1.out hH.out) (Kd.C_below HP2.out hH.out)).mono ?_); rintro e W1 ⟨rfl, hd_⟩; have hb := hd_.below; clear hd_))
      refine hK.out _ _ ⟨below_then hH.out hH.out.size hb⟩ (fun hH1 => ?_)
      clear hK K hb hH
      have hH := hH1
      clear hH1
      try simp only [Act.put, List.setIfInBounds_toArray, List.set_cons_zero, List.set_cons_succ, List.getElem_toArray, List.getElem_cons_zero, List.getElem_cons_succ]
      refine wpAnyH_take (i := 20) (v := .bool (!(decide (pixT d1 j p = pixT d2 j p)))) rfl (by kernel_rfl) (by kernel_rfl) (by kernel_rfl) (fun _ _ _ h => h) (.inl ⟨by kernel_rfl, fun W hW => by first | (go_simp; done) | (go_simp; intro h_; omega)⟩) hH ?_
      simp only [Act.put, List.setIfInBounds_toArray, List.set_cons_zero, List.set_cons_succ, List.getElem_toArray, List.getElem_cons_zero, List.getElem_cons_succ]
      refine wpAnyH_take (i := 21) (v := .bool (!(decide (pixT d1 j p = pixT d2 j p)))) rfl (by kernel_rfl) (by kernel_rfl) (by kernel_rfl) (fun _ _ _ h => h) (.inl ⟨by kernel_rfl, fun W hW => by first | (go_simp; done) | (go_simp; intro h_; omega)⟩) hH ?_
      simp only [Act.put, List.setIfInBounds_toArray, List.set_cons_zero, List.set_cons_succ, List.getElem_toArray, List.getElem_cons_zero, List.getElem_cons_succ]
      refine wpAnyH_take (i := 22) (v := .bool (!(decide (pixT d1 j p = pixT d2 j p)))) rfl (by kernel_rfl) (by kernel_rfl) (by kernel_rfl) (fun _ _ _ h => h) (.inl ⟨by kernel_rfl, fun W hW => by first | (go_simp; done) | (go_simp; intro h_; omega)⟩) hH ?_
      simp only [Act.put, List.setIfInBounds_toArray, List.set_cons_zero, List.set_cons_succ, List.getElem_toArray, List.getElem_cons_zero, List.getElem_cons_succ]
      refine wpAnyH_done (by kernel_rfl) ?_ _
      go_wp2
      go_ret
      exact ⟨by rw [chg_in a b p d1 d2 x y HX.out HY.out, HJ.out]; rfl, hH.out⟩
    · have dy : decide ((y : Int) < b) = false := decide_eq_false cy
      have e : chg a b p d1 d2 x y = false := by unfold chg; rw [dy, Bool.false_and, Bool.and_false]
      rw [e]
      have k0 := (blk_cell h1 0).trans rfl
      have k1 := (blk_cell h1 1).trans rfl
      clear hv1 hv2 cx cy h1 h2 hr1 hr2 e
      go_enter Try.func93, Try.ntmps93
      go_wp2
      go_quiet (fail)
      go_wp2
      go_ret
      exact ⟨rfl, pw_below_drewN (Below.refl _ _) _⟩
  · have dx : decide ((x : Int) < a) = false := decide_eq_false cx
    have e : chg a b p d1 d2 x y = false := by unfold chg; rw [dx, Bool.false_and]
    rw [e]
    have k0 := (blk_cell h1 0).trans rfl
    clear hv1 hv2 cx h1 h2 hr1 hr2 e
    go_enter Try.func93, Try.ntmps93
    go_wp2
    go_quiet (fail)
    go_wp2
    go_ret
    exact ⟨rfl, pw_below_drewN (Below.refl _ _) _⟩
set_option maxHeartbeats 1600000 in
set_option maxRecDepth 100000 in
theorem changed_calls (a b p : Int) (A1 A2 : Option Addr) (c1 c2 : Nat) (d1 d2 : List Int) (hv1 : validI a b p d1 = true) (hv2 : validI a b p d2 = true) (hc1 : d1.length ≤ c1) (hc2 : d2.length ≤ c2) (w : World) (hr1 : Kd.C (Kd.int .i64) w A1 d1.length d1) (hr2 : Kd.C (Kd.int .i64) w A2 d2.length d2) :
    Calls Try.prog 50 #[.agg #[.int .i64 a, .int .i64 b, .int .i64 p, .slice A1 d1.length c1], .agg #[.int .i64 a, .int .i64 b, .int .i64 p, .slice A2 d2.length c2]] w fun e w' => ∃ v0_ : Value, e = .returned (v0_) ∧ Kd.R k47 47 w' w.heap.size (fun _ => True) v0_ (runsL (gso (chg a b p d1 d2) 256)) ∧ Below w.heap.size w w' := by
  have HV1 := Aside0.mk hv1
  have HV2 := Aside0.mk hv2
  have HC1 := Aside0.mk hc1
  have HC2 := Aside0.mk hc2
  have HR1 := Aside0.mk hr1
  have HR2 := Aside0.mk hr2
  have HB0 := Aside0.mk (Below.refl w.heap.size w)
  clear hv1 hv2 hc1 hc2 hr1 hr2
  have hu := Try.underlying28
  go_enter Try.func50, Try.ntmps50
  go_wp2_with (first
    | ((with_reducible refine gate_dst (N := 2) rfl ?_); refine box_event ?hg (N := 2) ?hd (cs := #[.int .i64 a, .int .i64 b, .int .i64 p, .slice A1 d1.length c1]) (t := 28) ?hr ?_; (case hd => rfl); (case hg => rfl); (case hr => first | (go_simp; done) | (go_simp; rfl)); intro g1 hg_ w1 hbox hb; have HB1 := Aside0.mk (below_then HB0.out HB0.out.size hb); have K1 := Aside0.mk hbox; have Gg1 := Aside0.mk (show w.heap.size ≤ g1 from by rw [hg_]; exact HB0.out.size); clear hbox hb hg_)
    | ((with_reducible refine gate_dst (N := 3) rfl ?_); refine box_event ?hg (N := 3) ?hd (cs := #[.int .i64 a, .int .i64 b, .int .i64 p, .slice A2 d2.length c2]) (t := 28) ?hr ?_; (case hd => rfl); (case hg => rfl); (case hr => first | (go_simp; done) | (go_simp; rfl)); intro g2 hg_ w2 hbox hb; have HB2 := Aside0.mk (below_then HB1.out HB1.out.size hb); have K2 := Aside0.mk hbox; have K1b := Aside0.mk (blk_below K1.out hb); have Gg2 := Aside0.mk (show w.heap.size ≤ g2 from by rw [hg_]; exact HB1.out.size); have f0 : w2.cell? ⟨g1, 0, none⟩ = some (.int .i64 a) := (blk_cell K1b.out 0).trans rfl; have f1 : w2.cell? ⟨g1, 1, none⟩ = some (.int .i64 b) := (blk_cell K1b.out 1).trans rfl; have f2 : w2.cell? ⟨g1, 2, none⟩ = some (.int .i64 p) := (blk_cell K1b.out 2).trans rfl; have f3 : w2.cell? ⟨g1, 3, none⟩ = some (.slice A1 d1.length c1) := (blk_cell K1b.out 3).trans rfl; have e0 : w2.cell? ⟨g2, 0, none⟩ = some (.int .i64 a) := (blk_cell K2.out 0).trans rfl; have e1 : w2.cell? ⟨g2, 1, none⟩ = some (.int .i64 b) := (blk_cell K2.out 1).trans rfl; have e2 : w2.cell? ⟨g2, 2, none⟩ = some (.int .i64 p) := (blk_cell K2.out 2).trans rfl; have e3 : w2.cell? ⟨g2, 3, none⟩ = some (.slice A2 d2.length c2) := (blk_cell K2.out 3).trans rfl; clear hbox hb hg_)
    | (go_at_call 67; refine (gridBy_calls 93 #[.pointer (some ⟨g1, 0, none⟩), .pointer (some ⟨g2, 0, none⟩)] (chg a b p d1 d2) w2 (enters_of Try.func93 (by kernel_rfl) rfl) (fun W x y hx hy hW => changed1_calls a b p A1 A2 c1 c2 d1 d2 HV1.out HV2.out HC1.out HC2.out x y hx hy g1 g2 W (blk_below K1b.out hW) (blk_below K2.out hW) (Kd.C_below (Kd.C_below HR1.out HB2.out) hW) (Kd.C_below (Kd.C_below HR2.out HB2.out) hW))).mono ?_; rintro e w5 ⟨rfl, hb5⟩; have HB5 := Aside0.mk (below_then HB2.out HB2.out.size hb5); clear hb5)
    | (go_at_call 71; refine (runs_calls _ _).mono ?_; rintro e w6 ⟨v6, rfl, hr6, hb6⟩; have HR6 := Aside0.mk (Kd.R_lower hr6 HB5.out.size); have HB6 := Aside0.mk (below_then HB5.out HB5.out.size hb6); clear hb6 hr6))
  go_ret
  exact ⟨v6, rfl, HR6.out, HB6.out⟩
end Go.Proofs.Ytbgohbinonkhfaa.Q

/- impl.neighbours: the four neighbours of a pixel. -/
namespace Go.Proofs.Ytbgohbinonkhfaa.Q
open Go.RowKit Go.Proofs.YtbgohbinonkhfaaW.PrintWords Go.Proofs.YtbgohbinonkhfaaW.PrintLast Go.Proofs.YtbgohbinonkhfaaW.PrintMore
attribute [local go_sem] max2_int min2_int max_two min_two max_three min_three max_four min_four
set_option linter.unusedVariables false
set_option linter.unusedSimpArgs false
open Go.Proofs.Ytbgohbinonkhfaa.Pure

/-- neighbour i of a pixel, which may be anywhere -/
def nbI (x y : Int) (i : Nat) : Int × Int := match i with
  | 0 => (x - 1, y)
  | 1 => (x + 1, y)
  | 2 => (x, y - 1)
  | _ => (x, y + 1)
/-- whether the neighbours before i all have what h says -/
def nbAll (h : Int → Int → Bool) (x y : Int) : Bool := h (x - 1) y && h (x + 1) y && h x (y - 1) && h x (y + 1)
def nbAny (h : Int → Int → Bool) (x y : Int) : Bool := h (x - 1) y || h (x + 1) y || h x (y - 1) || h x (y + 1)
theorem nbAll_no {h : Int → Int → Bool} {x y : Int} (i : Nat) (hi : i < 4) (hf : h (nbI x y i).1 (nbI x y i).2 = false) : nbAll h x y = false := by
  unfold nbAll
  obtain rfl | rfl | rfl | rfl : i = 0 ∨ i = 1 ∨ i = 2 ∨ i = 3 := by omega
  all_goals (simp only [nbI] at hf; rw [hf]; simp)
theorem nbAll_yes {h : Int → Int → Bool} {x y : Int} (ha : ∀ i, i < 4 → h (nbI x y i).1 (nbI x y i).2 = true) : nbAll h x y = true := by
  unfold nbAll
  have h0 := ha 0 (by omega)
  have h1 := ha 1 (by omega)
  have h2 := ha 2 (by omega)
  have h3 := ha 3 (by omega)
  simp only [nbI] at h0 h1 h2 h3
  rw [h0, h1, h2, h3]; rfl
theorem nbAny_yes {h : Int → Int → Bool} {x y : Int} (i : Nat) (hi : i < 4) (hf : h (nbI x y i).1 (nbI x y i).2 = true) : nbAny h x y = true := by
  unfold nbAny
  obtain rfl | rfl | rfl | rfl : i = 0 ∨ i = 1 ∨ i = 2 ∨ i = 3 := by omega
  all_goals (simp only [nbI] at hf; rw [hf]; simp)
theorem nbAny_no {h : Int → Int → Bool} {x y : Int} (ha : ∀ i, i < 4 → h (nbI x y i).1 (nbI x y i).2 = false) : nbAny h x y = false := by
  unfold nbAny
  have h0 := ha 0 (by omega)
  have h1 := ha 1 (by omega)
  have h2 := ha 2 (by omega)
  have h3 := ha 3 (by omega)
  simp only [nbI] at h0 h1 h2 h3
  rw [h0, h1, h2, h3]; rfl
def nbv (x y : Int) : Value := .agg #[.int .i64 (x - 1), .int .i64 y, .int .i64 (x + 1), .int .i64 y, .int .i64 x, .int .i64 (y - 1), .int .i64 x, .int .i64 (y + 1)]

set_option maxHeartbeats 4000000 in
set_option maxRecDepth 100000 in
theorem neighbours_calls (x y : Int) (h0 : 0 ≤ x ∧ x < 16 ∧ 0 ≤ y ∧ y < 16) (w : World) :
    Calls Try.prog 98 #[.int .i64 x, .int .i64 y] w fun e w' => e = .returned (nbv x y) ∧ Below w.heap.size w w' := by
  have e1 : wrap64 (x - 1) = x - 1 := w64 (by omega) (by omega)
  have e2 : wrap64 (x + 1) = x + 1 := w64 (by omega) (by omega)
  have e3 : wrap64 (y - 1) = y - 1 := w64 (by omega) (by omega)
  have e4 : wrap64 (y + 1) = y + 1 := w64 (by omega) (by omega)
  have hB := Aside0.mk (below_alloc (Below.refl w.heap.size w) (.cells #[.int .i64 0, .int .i64 0, .int .i64 0, .int .i64 0, .int .i64 0, .int .i64 0, .int .i64 0, .int .i64 0] 104))
  clear h0
  go_enter Try.func98, Try.ntmps98
  go_wp2
  refine bodyPost_ret (results_cell_row rfl _ _ w.heap.size 104 #[.int .i64 (x - 1), .int .i64 y, .int .i64 (x + 1), .int .i64 y, .int .i64 x, .int .i64 (y - 1), .int .i64 x, .int .i64 (y + 1)] (0, 0) (.array 4 102) rfl (blk_new _ _) Try.underlying104 rfl (by kernel_rfl)) rfl ?_
  exact ⟨rfl, below_alloc (Below.refl _ _) _⟩
end Go.Proofs.Ytbgohbinonkhfaa.Q
