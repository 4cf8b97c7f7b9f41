/- A part of the proof that the statement FnExactBoxRegionSaid holds, under no condition of its own: The program's BoxRegion and the reference's return the same, and what is returned is held by nobody else: over lists of numbers alone. -/
import Derived.Test.YtfgeickfheogoaaCFnExactBoxRegion1
import Derived.Test.YtfgeickfheogoaaCFnExactBoxRegion2
import Derived.Test.YtfgeickfheogoaaRows
import Derived.JoinedOf
import Derived.KernelRfl
import Derived.WalkKit
import Derived.ProofKit
import Derived.OpenShut
import Derived.ShutString
import Derived.ChangeOld
import Derived.Below
import Derived.SizedLaws
import Derived.Carry
namespace Go.Proofs.Ytfgeickfheogoaa.Q
open Go.RowKit Go.Proofs.YtfgeickfheogoaaW.PrintWords Go.Proofs.YtfgeickfheogoaaW.PrintLast Go.Proofs.YtfgeickfheogoaaW.PrintMore
attribute [local go_sem] max2_int min2_int max_two min_two max_three min_three max_four min_four
set_option linter.unusedVariables false
set_option linter.unusedSimpArgs false
/-! ### laws_szRunS: function 17 -/
def laws_szRunS.f (l0 : List (S59)) (a1 : Int) : Option (Int) := if (wrap64 (a1 - (l0.length : Int))) < 0 then (some (-1)) else (some (wrap64 (a1 - (l0.length : Int))))
set_option maxHeartbeats 8000000 in
set_option maxRecDepth 100000 in
theorem laws_szRunS.calls (A0 : Option Addr) (c0 : Nat) (l0 : List (S59)) (a1 : Int) (r : Int) (w : World) (hr0 : Kd.C k59 w A0 l0.length l0) (hc0 : l0.length ≤ c0) (h : laws_szRunS.f l0 a1 = some r) :
    Calls Try.prog 17 #[.slice A0 l0.length c0, .int .i64 a1] w fun e w' => e = .returned (.int .i64 r) ∧ Drawn0 w w' := by
  have HR0 := Aside0.mk hr0
  have HC0 := Aside0.mk hc0
  clear hr0 hc0
  have H : (if (wrap64 (a1 - (l0.length : Int))) < 0 then (some (-1)) else (some (wrap64 (a1 - (l0.length : Int))))) = some r := h
  clear h
  by_cases c3 : (wrap64 (a1 - (l0.length : Int))) < 0
  · rw [if_pos c3] at H
    have c3b0 : decide ((wrap64 (a1 - (l0.length : Int))) < 0) = true := decide_eq_true c3
    clear c3
    obtain rfl := Option.some.inj H
    go_enter Try.func17, Try.ntmps17
    go_wp2
    go_ret
    exact ⟨by first | rfl | (simp; done) | (simp [*]; done), by repeat (first | exact Drawn0.refl _ | apply Drawn0.step)⟩
  · rw [if_neg c3] at H
    have c3b0 : decide ((wrap64 (a1 - (l0.length : Int))) < 0) = false := decide_eq_false c3
    clear c3
    obtain rfl := Option.some.inj H
    go_enter Try.func17, Try.ntmps17
    go_wp2
    go_ret
    exact ⟨by first | rfl | (simp; done) | (simp [*]; done), by repeat (first | exact Drawn0.refl _ | apply Drawn0.step)⟩

end Go.Proofs.Ytfgeickfheogoaa.Q

/- Copies of runs: they are the runs. -/
namespace Go.Proofs.Ytfgeickfheogoaa.Pure
open Go.RowKit Go.Proofs.Ytfgeickfheogoaa.Q Go.Proofs.YtfgeickfheogoaaW.PrintWords Go.Proofs.YtfgeickfheogoaaW.PrintLast Go.Proofs.YtfgeickfheogoaaW.PrintMore
set_option linter.unusedVariables false
set_option linter.unusedSimpArgs false

abbrev LRun := S59
theorem rdLRun (l : List LRun) (i : Nat) (h : i < l.length) : rd_T59 l (i : Int) = l[i] := by simp [rd_T59, h]
/-! copies -/
def cRun (r : LRun) : Run := ⟨r.f0, r.f1, r.f2⟩
theorem toRunS_eq (l : List LRun) (hl : l.length ≤ 2000000) (k : Nat) (hk : l.length < k) : laws_toRunS.f k l = some (l.map cRun) := by
  have h := loop_up 0 l.length (fun k i s => laws_toRunS.l0 k l s (i : Int)) (fun i s => s.length = l.length) (fun i s => s.take i ++ (l.drop i).map cRun)
    (by
      intro i s k hi hs _
      refine .inr ⟨s.set i (cRun l[i]), ?_, by simpa using hs, ?_⟩
      · simp only [laws_toRunS.l0]
        rw [if_pos (by omega), if_pos (by omega), rdLRun l i hi]
        simp only [laws_toRun.f, Option.bind_some]
        rw [if_pos (by omega), w64n i (by omega)]; rfl
      · skip
        rw [take_set s i _ (by omega), List.drop_eq_getElem_cons hi, List.map_cons, List.append_assoc]; rfl)
    (by
      intro s k hs _
      simp only [laws_toRunS.l0]
      rw [if_neg (by omega), List.drop_length]; simp [← hs])
    l.length 0 (List.replicate l.length z57) k (by omega) (by simp) (by omega)
  unfold laws_toRunS.f
  rw [if_pos (by omega), if_pos (by omega)]
  simpa using h
theorem eqRunS_refl (l : List Run) (hl : l.length ≤ 1000000000000) (k : Nat) (hk : l.length < k) : laws_eqRunS.f k l l = some true := by
  have h := loop_up 0 l.length (fun k i (_ : Unit) => laws_eqRunS.l0 k l l (i : Int)) (fun _ _ => True) (fun _ _ => true)
    (by
      intro i s k hi _ _
      refine .inr ⟨(), ?_, trivial, rfl⟩
      simp only [laws_eqRunS.l0]
      rw [if_pos (by omega), if_pos (by omega), if_pos (by omega), w64n i (by omega)]
      simp [laws_eqRun.f])
    (by
      intro s k _ _
      simp only [laws_eqRunS.l0]
      rw [if_neg (by omega)])
    l.length 0 () k (by omega) trivial (by omega)
  unfold laws_eqRunS.f
  rw [if_pos rfl]
  simpa using h
theorem szRunS_eq (l : List LRun) (n : Int) (h0 : 0 ≤ n) (h1 : n ≤ 1048576) (hl : l.length ≤ 9223372036854775807) :
    (l.length ≤ 1048576 ∧ n - (l.length : Int) ≥ 0 ∧ laws_szRunS.f l n = some (n - (l.length : Int))) ∨ laws_szRunS.f l n = some (-1) := by
  unfold laws_szRunS.f
  by_cases c : (l.length : Int) ≤ n
  · left
    rw [w64 (by omega) (by omega), if_neg (by omega)]
    exact ⟨by omega, by omega, rfl⟩
  · right
    rw [w64 (by omega) (by omega), if_pos (by omega)]
end Go.Proofs.Ytfgeickfheogoaa.Pure

/- Marks on runs: what is written into a list's runs, and read again. -/
namespace Go.Proofs.Ytfgeickfheogoaa.Pure
open Go.RowKit Go.Proofs.Ytfgeickfheogoaa.Q Go.Proofs.YtfgeickfheogoaaW.PrintWords Go.Proofs.YtfgeickfheogoaaW.PrintLast Go.Proofs.YtfgeickfheogoaaW.PrintMore
set_option linter.unusedVariables false
set_option linter.unusedSimpArgs false

/-- run i of a list that has been marked from n on -/
def markOne (n : Int) (i : Nat) : Run := ⟨n + 3 * (i : Int), n + 3 * (i : Int) + 1, n + 3 * (i : Int) + 1 + 1⟩
def marked (m : Nat) (n : Int) : List Run := (List.range m).map (markOne n)
theorem marked_length (m : Nat) (n : Int) : (marked m n).length = m := by simp [marked]
theorem marked_succ (m : Nat) (n : Int) : marked (m + 1) n = marked m n ++ [markOne n m] := by simp [marked, List.range_succ]
theorem marked_get (m : Nat) (n : Int) (i : Nat) (h : i < (marked m n).length) : (marked m n)[i] = markOne n i := by simp [marked]
theorem markRunS_ev (l : List Run) (n : Int) (hl : l.length ≤ 1000000000) (h0 : 0 ≤ n) (h1 : n ≤ 1000000000000) : Ev (fun k => laws_markRunS.f k l n) (n + 3 * (l.length : Int), marked l.length n) := by
  have key := ev_up l.length (fun k i (s : List Run) => laws_markRunS.l0 k s (n + 3 * (i : Int)) (i : Int)) (fun i s => s.length = l.length ∧ s.take i = marked i n) (fun _ _ => (n + 3 * (l.length : Int), marked l.length n))
    (by
      intro i s hi hs
      right
      have hi' : i < s.length := by omega
      refine ⟨s.set i (markOne n i), fun k => ?_, ⟨by rw [List.length_set]; exact hs.1, by rw [take_set s i _ hi', hs.2, marked_succ]⟩, rfl⟩
      simp only [laws_markRunS.l0]
      have r1 : ∀ c : Run, rd_T57 (s.set i c) (i : Int) = c := by
        intro c
        rw [rdRun (s.set i c) i (by rw [List.length_set]; omega), List.getElem_set_self]
      rw [if_pos (by omega), if_pos (by omega)]
      simp only [Option.bind_some, Int.toNat_natCast, List.set_set, r1]
      rw [w64n i (by omega), w64 (x := n + 3 * (i : Int) + 1) (by omega) (by omega), w64 (x := n + 3 * (i : Int) + 1 + 1) (by omega) (by omega), w64 (x := n + 3 * (i : Int) + 1 + 1 + 1) (by omega) (by omega)]
      have e : n + 3 * (i : Int) + 1 + 1 + 1 = n + 3 * ((i + 1 : Nat) : Int) := by omega
      rw [e]
      rfl)
    (by
      intro s hs
      refine Ev.step (f := fun _ => some (n + 3 * (l.length : Int), s)) (fun k => ?_) (ev_const ?_)
      · simp only [laws_markRunS.l0]
        rw [if_neg (by omega)]
      · rw [← hs.2, ← hs.1, List.take_length])
    l.length 0 l (by omega) ⟨rfl, by simp [marked]⟩
  unfold laws_markRunS.f
  simpa using key
theorem heldRunS_ev (m : Nat) (n : Int) (hl : m ≤ 1000000000) (h0 : 0 ≤ n) (h1 : n ≤ 1000000000000) : Ev (fun k => laws_heldRunS.f k (marked m n) n) (n + 3 * (m : Int)) := by
  have key := ev_up m (fun k i (_ : Unit) => laws_heldRunS.l0 k (marked m n) (n + 3 * (i : Int)) (i : Int)) (fun _ _ => True) (fun _ _ => n + 3 * (m : Int))
    (by
      intro i s hi _
      right
      refine ⟨(), fun k => ?_, trivial, rfl⟩
      simp only [laws_heldRunS.l0]
      rw [if_pos (by rw [marked_length]; omega), if_pos (by omega), rdRun _ i (by rw [marked_length]; omega), marked_get, w64n i (by omega), w64 (x := n + 3 * (i : Int) + 1) (by omega) (by omega), w64 (x := n + 3 * (i : Int) + 1 + 1) (by omega) (by omega), w64 (x := n + 3 * (i : Int) + 1 + 1 + 1) (by omega) (by omega)]
      have e : n + 3 * (i : Int) + 1 + 1 + 1 = n + 3 * ((i + 1 : Nat) : Int) := by omega
      rw [if_pos (by simp only [markOne]), if_pos (by simp only [markOne]), if_pos (by simp only [markOne]), e])
    (by
      intro s _
      refine Ev.step (f := fun _ => some (n + 3 * (m : Int))) (fun k => ?_) (ev_const rfl)
      simp only [laws_heldRunS.l0]
      rw [if_neg (by rw [marked_length]; omega)])
    m 0 () (by omega) trivial
  unfold laws_heldRunS.f
  simpa using key
end Go.Proofs.Ytfgeickfheogoaa.Pure

/- The region of a box, as the program and the reference have it. -/
namespace Go.Proofs.Ytfgeickfheogoaa.Pure
open Go.RowKit Go.Proofs.Ytfgeickfheogoaa.Q Go.Proofs.YtfgeickfheogoaaW.PrintWords Go.Proofs.YtfgeickfheogoaaW.PrintLast Go.Proofs.YtfgeickfheogoaaW.PrintMore
set_option linter.unusedVariables false
set_option linter.unusedSimpArgs false

theorem scanRow_len (g : Nat → Bool) (y : Nat) : ∀ d x, 17 ≤ x + d → (scanRow g y x).length ≤ 17 - x := by
  intro d
  induction d with
  | zero => intro x hx; rw [scan_end g y x (by omega)]; simp
  | succ d ih =>
    intro x hx
    by_cases h16 : x < 16
    · cases hv : g (y * 16 + x) with
      | true =>
        have := endAt_ge g y (16 - x) x
        rw [scan_true g y x h16 hv, List.length_cons]
        have := ih (endAt g y (16 - x) x + 1) (by omega)
        omega
      | false =>
        rw [scan_false g y x h16 hv]
        have := ih (x + 1) (by omega)
        omega
    · rw [scan_end g y x (by omega)]; simp
theorem runsTo_len (g : Nat → Bool) (n : Nat) : (runsTo g n).length ≤ 17 * n := by
  induction n with
  | zero => simp [runsTo]
  | succ n ih =>
    rw [runsTo_succ, List.length_append]
    have := scanRow_len g n 17 0 (by omega)
    omega
theorem runsL_len (g : Nat → Bool) : (runsL g).length ≤ 272 := runsTo_len g 16
theorem scan_none (g : Nat → Bool) (y : Nat) (h : ∀ x, x < 16 → g (y * 16 + x) = false) : scanRow g y 0 = [] := by
  have : ∀ d x, 16 ≤ x + d → scanRow g y x = [] := by
    intro d
    induction d with
    | zero => intro x hx; exact scan_end g y x (by omega)
    | succ d ih =>
      intro x hx
      by_cases h16 : x < 16
      · rw [scan_false g y x h16 (h x h16)]; exact ih (x + 1) (by omega)
      · exact scan_end g y x (by omega)
  exact this 16 0 (by omega)
theorem scan_seg (g : Nat → Bool) (y a b : Nat) (hab : a < b) (hb : b ≤ 16) (h : ∀ x, x < 16 → g (y * 16 + x) = (decide (a ≤ x) && decide (x < b))) : scanRow g y 0 = [⟨(y : Int), (a : Int), (b : Int)⟩] := by
  have e1 : ∀ d x, x + d = a → scanRow g y x = scanRow g y a := by
    intro d
    induction d with
    | zero => intro x hx; rw [show x = a by omega]
    | succ d ih =>
      intro x hx
      rw [scan_false g y x (by omega) (by rw [h x (by omega)]; simp; omega)]
      exact ih (x + 1) (by omega)
  have e2 : ∀ d x, x + d = b → a ≤ x → endAt g y (16 - x) x = b := by
    intro d
    induction d with
    | zero =>
      intro x hx ha
      rw [show x = b by omega]
      apply endAt_stop
      by_cases hb' : b < 16
      · right; rw [h b hb']; simp
      · left; omega
    | succ d ih =>
      intro x hx ha
      rw [endAt_step g y x (by omega) (by rw [h x (by omega)]; simp; omega)]
      exact ih (x + 1) (by omega) (by omega)
  have e3 : ∀ d x, 16 ≤ x + d → b ≤ x → scanRow g y x = [] := by
    intro d
    induction d with
    | zero => intro x hx _; exact scan_end g y x (by omega)
    | succ d ih =>
      intro x hx hbx
      by_cases h16 : x < 16
      · rw [scan_false g y x h16 (by rw [h x h16]; simp; omega)]
        exact ih (x + 1) (by omega) (by omega)
      · exact scan_end g y x (by omega)
  rw [e1 a 0 (by omega), scan_true g y a (by omega) (by rw [h a (by omega)]; simp; omega), e2 (b - a) a (by omega) (Nat.le_refl _), e3 16 (b + 1) (by omega) (by omega)]
/-- the runs of a box: one a row -/
def boxRuns (b0 b1 b2 b3 : Int) (n : Nat) : List Run := (List.range n).map fun (i : Nat) => ⟨b1 + (i : Int), b0, b0 + b2⟩
theorem boxRuns_succ (b0 b1 b2 b3 : Int) (n : Nat) : boxRuns b0 b1 b2 b3 (n + 1) = boxRuns b0 b1 b2 b3 n ++ [⟨b1 + (n : Int), b0, b0 + b2⟩] := by simp [boxRuns, List.range_succ]
theorem boxOk_iff (b0 b1 b2 b3 : Int) : boxOk b0 b1 b2 b3 = true ↔ 0 ≤ b0 ∧ b0 < 16 ∧ 0 ≤ b1 ∧ b1 < 16 ∧ 1 ≤ b2 ∧ b2 ≤ 16 - b0 ∧ 1 ≤ b3 ∧ b3 ≤ 16 - b1 := by simp [boxOk]
theorem runs_box (b0 b1 b2 b3 : Int) (h : boxOk b0 b1 b2 b3 = true) : runsL (gso (inBox b0 b1 b2 b3) 256) = boxRuns b0 b1 b2 b3 b3.toNat := by
  have h := (boxOk_iff b0 b1 b2 b3).1 h
  have cell : ∀ y x, y < 16 → x < 16 → gso (inBox b0 b1 b2 b3) 256 (y * 16 + x) = inBox b0 b1 b2 b3 x y := by
    intro y x hy hx
    unfold gso
    rw [show (y * 16 + x) % 16 = x by omega, show (y * 16 + x) / 16 = y by omega, decide_eq_true (by omega), Bool.true_and]
  have key : ∀ n : Nat, n ≤ 16 → runsTo (gso (inBox b0 b1 b2 b3) 256) n = boxRuns b0 b1 b2 b3 (min (n : Int) (b1 + b3) - b1).toNat := by
    intro n
    induction n with
    | zero => intro _; rw [show (min ((0 : Nat) : Int) (b1 + b3) - b1).toNat = 0 by omega]; simp [runsTo, boxRuns]
    | succ n ih =>
      intro hn
      rw [runsTo_succ, ih (by omega)]
      by_cases c1 : (n : Int) < b1
      · rw [scan_none _ n (fun x hx => by rw [cell n x (by omega) hx]; unfold inBox; rw [decide_eq_false (show ¬ b1 ≤ (n : Int) by omega), Bool.and_false, Bool.false_and]), List.append_nil]
        congr 1; omega
      · by_cases c2 : (n : Int) < b1 + b3
        · rw [scan_seg _ n b0.toNat (b0 + b2).toNat (by omega) (by omega) (fun x hx => by
            rw [cell n x (by omega) hx]; unfold inBox
            rw [decide_eq_true (show b1 ≤ (n : Int) by omega), decide_eq_true c2, Bool.and_true, Bool.and_true]
            congr 1
            · rw [decide_eq_decide]; omega
            · rw [decide_eq_decide]; omega)]
          rw [show (min ((n + 1 : Nat) : Int) (b1 + b3) - b1).toNat = (min (n : Int) (b1 + b3) - b1).toNat + 1 by omega, boxRuns_succ]
          congr 2
          rw [show b1 + (((min (n : Int) (b1 + b3) - b1).toNat : Nat) : Int) = (n : Int) by omega, show ((b0.toNat : Nat) : Int) = b0 by omega, show (((b0 + b2).toNat : Nat) : Int) = b0 + b2 by omega]
        · rw [scan_none _ n (fun x hx => by rw [cell n x (by omega) hx]; unfold inBox; rw [decide_eq_false c2, Bool.and_false]), List.append_nil]
          congr 1; omega
  have := key 16 (Nat.le_refl _)
  unfold runsL
  rw [this]
  congr 1; omega
/-- what both answer -/
def boxV (b0 b1 b2 b3 : Int) : List Run × Bool := if boxOk b0 b1 b2 b3 = true then (boxRuns b0 b1 b2 b3 b3.toNat, true) else ([], false)
theorem impl_BoxRegion_eq (b0 b1 b2 b3 : Int) : impl_BoxRegion.f b0 b1 b2 b3 = some (boxV b0 b1 b2 b3) := by
  unfold impl_BoxRegion.f boxV
  by_cases h : boxOk b0 b1 b2 b3 = true
  · rw [if_pos h, if_pos h, runs_box b0 b1 b2 b3 h]
  · rw [if_neg h, if_neg h]
theorem boxV_len (b0 b1 b2 b3 : Int) : (boxV b0 b1 b2 b3).1.length ≤ 16 := by
  unfold boxV
  by_cases h : boxOk b0 b1 b2 b3 = true
  · have := (boxOk_iff b0 b1 b2 b3).1 h
    rw [if_pos h]
    show (boxRuns b0 b1 b2 b3 b3.toNat).length ≤ 16
    unfold boxRuns
    rw [List.length_map, List.length_range]
    omega
  · rw [if_neg h]; simp
theorem spec_validBox_eq (b0 b1 b2 b3 : Int) : spec_validBox.f 16 16 0 ([] : List Int) b0 b1 b2 b3 = some (boxOk b0 b1 b2 b3) := by
  unfold spec_validBox.f
  have e16 : wrap64 (16 - 1) = 15 := by rw [w64 (x := 16 - 1) (by omega) (by omega)]; rfl
  rw [e16, inRange_eq' b0 0 15]
  simp only [Option.bind_some]
  by_cases c1 : 0 ≤ b0 ∧ b0 ≤ 15
  · rw [if_pos (by simpa using c1), inRange_eq' b1 0 15]
    simp only [Option.bind_some]
    by_cases c2 : 0 ≤ b1 ∧ b1 ≤ 15
    · rw [if_pos (by simpa using c2), w64 (x := 16 - b0) (by omega) (by omega), w64 (x := 16 - b1) (by omega) (by omega), inRange_eq' b2 1 (16 - b0)]
      simp only [Option.bind_some]
      by_cases c3 : 1 ≤ b2 ∧ b2 ≤ 16 - b0
      · rw [if_pos (by simpa using c3), inRange_eq' b3 1 (16 - b1)]
        simp only [Option.bind_some]
        congr 1
        unfold boxOk
        rw [← Bool.decide_and, decide_eq_decide]
        omega
      · rw [if_neg (by simpa using c3)]
        congr 1; symm; unfold boxOk; rw [decide_eq_false_iff_not]; omega
    · rw [if_neg (by simpa using c2)]
      congr 1; symm; unfold boxOk; rw [decide_eq_false_iff_not]; omega
  · rw [if_neg (by simpa using c1)]
    congr 1; symm; unfold boxOk; rw [decide_eq_false_iff_not]; omega
theorem spec_BoxRegion_ev (b0 b1 b2 b3 : Int) : Ev (fun k => spec_BoxRegion.f k b0 b1 b2 b3) (boxV b0 b1 b2 b3) := by
  unfold spec_BoxRegion.f boxV
  refine ev_now (spec_validBox_eq b0 b1 b2 b3) ?_
  by_cases h : boxOk b0 b1 b2 b3 = true
  · have h' := (boxOk_iff b0 b1 b2 b3).1 h
    refine ev_pos h ?_
    rw [if_pos h]
    have key := ev_up b3.toNat (fun k i (s : List Run) => spec_BoxRegion.l0 k s (b1 + (i : Int)) b0 b1 b2 b3) (fun i s => s = boxRuns b0 b1 b2 b3 i) (fun _ _ => (boxRuns b0 b1 b2 b3 b3.toNat, true))
      (by
        intro i s hi hs
        right
        refine ⟨boxRuns b0 b1 b2 b3 (i + 1), fun k => ?_, rfl, rfl⟩
        simp only [spec_BoxRegion.l0]
        have hlen : s.length = i := by rw [hs]; simp [boxRuns]
        rw [w64 (x := b1 + b3) (by omega) (by omega), w64 (x := b0 + b2) (by omega) (by omega), w64 (x := b1 + (i : Int) + 1) (by omega) (by omega), if_pos (by omega), if_pos (by omega), boxRuns_succ, hs]
        congr 1; omega)
      (by
        intro s hs
        refine Ev.step (f := fun _ => some (s, true)) (fun k => ?_) (ev_const (by rw [hs]))
        simp only [spec_BoxRegion.l0]
        rw [w64 (x := b1 + b3) (by omega) (by omega), if_neg (by omega)])
      b3.toNat 0 [] (by omega) (by simp [boxRuns])
    simpa using key
  · refine ev_neg h ?_
    rw [if_neg h]
    exact ev_const rfl
end Go.Proofs.Ytfgeickfheogoaa.Pure

/- The program's BoxRegion and the reference's return the same, and what is returned is held by nobody else: over lists of numbers alone. -/
namespace Go.Proofs.Ytfgeickfheogoaa.Pure
open Go.RowKit Go.Proofs.Ytfgeickfheogoaa.Q Go.Proofs.YtfgeickfheogoaaW.PrintWords Go.Proofs.YtfgeickfheogoaaW.PrintLast Go.Proofs.YtfgeickfheogoaaW.PrintMore
set_option linter.unusedVariables false
set_option linter.unusedSimpArgs false

theorem FnExactBoxRegion : laws_FnExactBoxRegion.Pure := by
  intro b0 b1 b2 b3
  intros
  apply Ev.rounds
  unfold laws_FnExactBoxRegion.f
  have hI := impl_BoxRegion_eq b0 b1 b2 b3
  have hS := spec_BoxRegion_ev b0 b1 b2 b3
  have hlen := boxV_len b0 b1 b2 b3
  have hm := markRunS_ev (boxV b0 b1 b2 b3).1 1 (by omega) (by omega) (by omega)
  have hh := heldRunS_ev (boxV b0 b1 b2 b3).1.length 1 (by omega) (by omega) (by omega)
  have heq := ev_of (boxV b0 b1 b2 b3).1.length (fun k hk => eqRunS_refl (boxV b0 b1 b2 b3).1 (by omega) k hk)
  generalize boxV b0 b1 b2 b3 = V at *
  obtain ⟨r, ok⟩ := V
  simp only at *
  refine ev_now rfl (ev_bind hS (ev_now rfl (ev_now hI (ev_bind heq (ev_pos rfl ?_)))))
  refine Ev.step (fun k => by simp only [laws_FnExactBoxRegion.j0]; rfl) ?_
  refine ev_neg (by simp) (ev_bind hm (ev_bind hh (ev_neg (by omega) (ev_pos rfl (ev_now rfl (ev_now hI (ev_bind heq (ev_pos rfl ?_))))))))
  refine Ev.step (fun k => by simp only [laws_FnExactBoxRegion.j1]; rfl) ?_
  refine ev_neg (by simp) (ev_bind hh (ev_neg (by omega) (ev_pos rfl (ev_const rfl))))
end Go.Proofs.Ytfgeickfheogoaa.Pure

/- The head of the translation reads as a plain cut. -/
namespace Go.Proofs.Ytfgeickfheogoaa.Head
set_option maxRecDepth 100000
theorem wordsSigns_word (w r : List Char) (h : w.all (fun c => !(c == Char.ofNat 32)) = true) : wordsSigns (w ++ Char.ofNat 32 :: r) = w :: wordsSigns r := by
  induction w with
  | nil => rfl
  | cons c w ih =>
    simp only [List.all_cons, Bool.and_eq_true, Bool.not_eq_true', beq_eq_false_iff_ne, ne_eq] at h
    have h1 := ih (by simpa using h.2)
    rw [List.cons_append, wordsSigns.eq_3 c _ h.1, h1]
def w1 : List Char := [104, 97, 114, 110, 101, 115, 115].map Char.ofNat
def w2 : List Char := [50, 56, 98, 98, 49, 50, 55, 52, 52, 51, 57, 52, 49, 48, 50, 99, 49, 101, 51, 56, 48, 55, 99, 55, 56, 54, 102, 55, 101, 99, 97, 50, 50, 51, 102, 48, 102, 55, 97, 102, 49, 102, 53, 49, 52, 56, 48, 100, 55, 53, 101, 102, 97, 100, 57, 50, 50, 50, 53, 55, 53, 102, 97, 55].map Char.ofNat
def w3 : List Char := [99, 117, 116].map Char.ofNat
def w4 : List Char := [97, 116, 32, 108, 111, 111, 112, 46, 101, 120, 97, 109, 112, 108, 101, 47, 112, 105, 120, 101, 108, 119, 111, 114, 107, 115, 47, 108, 97, 119, 115, 46, 70, 110, 69, 120, 97, 99, 116, 86, 97, 108, 105, 100, 82, 101, 103, 105, 111, 110, 32, 108, 111, 111, 112, 46, 101, 120, 97, 109, 112, 108, 101, 47, 112, 105, 120, 101, 108, 119, 111, 114, 107, 115, 47, 108, 97, 119, 115, 46, 70, 110, 69, 120, 97, 99, 116, 65, 114, 101, 97, 79, 102, 32, 108, 111, 111, 112, 46, 101, 120, 97, 109, 112, 108, 101, 47, 112, 105, 120, 101, 108, 119, 111, 114, 107, 115, 47, 108, 97, 119, 115, 46, 70, 110, 69, 120, 97, 99, 116, 82, 101, 103, 105, 111, 110, 72, 97, 115, 32, 108, 111, 111, 112, 46, 101, 120, 97, 109, 112, 108, 101, 47, 112, 105, 120, 101, 108, 119, 111, 114, 107, 115, 47, 108, 97, 119, 115, 46, 70, 110, 69, 120, 97, 99, 116, 66, 111, 120, 82, 101, 103, 105, 111, 110, 32, 108, 111, 111, 112, 46, 101, 120, 97, 109, 112, 108, 101, 47, 112, 105, 120, 101, 108, 119, 111, 114, 107, 115, 47, 108, 97, 119, 115, 46, 70, 110, 69, 120, 97, 99, 116, 66, 111, 117, 110, 100, 115, 79, 102, 32, 108, 111, 111, 112, 46, 101, 120, 97, 109, 112, 108, 101, 47, 112, 105, 120, 101, 108, 119, 111, 114, 107, 115, 47, 108, 97, 119, 115, 46, 70, 110, 66, 111, 120, 82, 101, 103, 105, 111, 110, 32, 108, 111, 111, 112, 46, 101, 120, 97, 109, 112, 108, 101, 47, 112, 105, 120, 101, 108, 119, 111, 114, 107, 115, 47, 108, 97, 119, 115, 46, 70, 110, 69, 100, 103, 101, 79, 102, 66, 111, 120, 32, 108, 111, 111, 112, 46, 101, 120, 97, 109, 112, 108, 101, 47, 112, 105, 120, 101, 108, 119, 111, 114, 107, 115, 47, 108, 97, 119, 115, 46, 70, 110, 69, 120, 97, 99, 116, 83, 104, 105, 102, 116, 82, 101, 103, 105, 111, 110, 32, 108, 111, 111, 112, 46, 101, 120, 97, 109, 112, 108, 101, 47, 112, 105, 120, 101, 108, 119, 111, 114, 107, 115, 47, 108, 97, 119, 115, 46, 70, 110, 69, 120, 97, 99, 116, 69, 100, 103, 101, 79, 102, 32, 108, 111, 111, 112, 46, 101, 120, 97, 109, 112, 108, 101, 47, 112, 105, 120, 101, 108, 119, 111, 114, 107, 115, 47, 108, 97, 119, 115, 46, 70, 110, 69, 120, 97, 99, 116, 67, 111, 109, 98, 105, 110, 101, 82, 101, 103, 105, 111, 110, 115, 32, 108, 111, 111, 112, 46, 101, 120, 97, 109, 112, 108, 101, 47, 112, 105, 120, 101, 108, 119, 111, 114, 107, 115, 47, 108, 97, 119, 115, 46, 70, 110, 69, 120, 97, 99, 116, 71, 114, 111, 119, 82, 101, 103, 105, 111, 110, 32, 108, 111, 111, 112, 46, 101, 120, 97, 109, 112, 108, 101, 47, 112, 105, 120, 101, 108, 119, 111, 114, 107, 115, 47, 108, 97, 119, 115, 46, 70, 110, 69, 120, 97, 99, 116, 83, 104, 114, 105, 110, 107, 82, 101, 103, 105, 111, 110, 32, 108, 111, 111, 112, 46, 101, 120, 97, 109, 112, 108, 101, 47, 112, 105, 120, 101, 108, 119, 111, 114, 107, 115, 47, 108, 97, 119, 115, 46, 70, 110, 69, 120, 97, 99, 116, 79, 112, 101, 110, 82, 101, 103, 105, 111, 110, 32, 108, 111, 111, 112, 46, 101, 120, 97, 109, 112, 108, 101, 47, 112, 105, 120, 101, 108, 119, 111, 114, 107, 115, 47, 108, 97, 119, 115, 46, 70, 110, 69, 120, 97, 99, 116, 80, 97, 114, 116, 115, 79, 102].map Char.ofNat
theorem signs0 : Try.prog.initOrder = String.ofList (w1 ++ Char.ofNat 32 :: (w2 ++ Char.ofNat 32 :: (w3 ++ Char.ofNat 32 :: w4))) := by kernel_rfl
theorem behind : behindMainWord (wordsSigns Try.prog.initOrder.toList) = w3 :: wordsSigns w4 := by
  rw [signs0, String.toList_ofList, wordsSigns_word w1 _ (by kernel_rfl), wordsSigns_word w2 _ (by kernel_rfl), wordsSigns_word w3 _ (by kernel_rfl)]
  unfold behindMainWord
  dsimp only
  rw [if_pos (by kernel_rfl)]
theorem strip_cut (R : List (List Char)) : stripLifts liftWords (w3 :: R) = ([], w3 :: R) := by kernel_rfl
theorem mayEnter_of (P : Program) (R : List (List Char)) (h : behindMainWord (wordsSigns P.initOrder.toList) = w3 :: R) (h1 : P.laysLater = false) (h2 : P.bearsReflect = false) (h3 : P.doorFits [] = true) : P.mayEnter = true := by
  unfold Program.mayEnter
  rw [h]
  dsimp only
  rw [strip_cut, h1, h2, h3]
  kernel_rfl
theorem liftsFinal_of (P : Program) (R : List (List Char)) (h : behindMainWord (wordsSigns P.initOrder.toList) = w3 :: R) : P.liftsFinal = false := by
  unfold Program.liftsFinal Program.headLifts
  rw [h]
  dsimp only
  rw [strip_cut]
  kernel_rfl
theorem make_of (P : Program) (R : List (List Char)) (h : behindMainWord (wordsSigns P.initOrder.toList) = w3 :: R) : P.make = some .cut := by
  unfold Program.make
  rw [h]
  kernel_rfl
theorem mayEnter : Try.prog.mayEnter = true := mayEnter_of _ _ behind (by kernel_rfl) (by kernel_rfl) (by kernel_rfl)
theorem liftsFinal : Try.prog.liftsFinal = false := liftsFinal_of _ _ behind
theorem make : Try.prog.make = some .cut := make_of _ _ behind
end Go.Proofs.Ytfgeickfheogoaa.Head

-- the row of the law FnExactBoxRegion
namespace Go.Proofs.Ytfgeickfheogoaa.fnExactBoxRegion
open Go.ChangeShapes Go.WideShapes Go.ChangeAt Go.RowKit Go.Proofs.Ytfgeickfheogoaa.Q Go.Proofs.YtfgeickfheogoaaW.PrintWords
open Go.ChangeMaps (open_string shut_string)
set_option linter.unusedVariables false
theorem own : ownKnob Try.prog.godebug = none := by kernel_rfl
theorem laidOut : laidOutB Try.prog = true := by kernel_rfl
set_option maxRecDepth 100000 in
theorem lifted (os : Os) (started : os.Started) (H : Type) (enc : TypeId × Value → H) :
    ReturnsInHanded {} Try.checked os 6 .any (Rows.fnExactBoxRegionSpec.pre6 enc Try.prog Try.f6 Rows.fnExactBoxRegionRow.domain false) (Rows.fnExactBoxRegionSpec.post enc Try.prog Try.f6 false true false false) := by
  refine returnsInHanded_of_change_sized (C := Try.checked) own started (by kernel_rfl) Try.func6
    (ChangeSpec.witness6 (enc := enc) (C := Try.checked) false ⟨#[], #[.agg #[.int .i64 0, .int .i64 0, .int .i64 0, .int .i64 0]], []⟩ 8 (by kernel_rfl) (by kernel_rfl) (by kernel_rfl) (by kernel_rfl)) ?_
  intro W base args ds gs before hval0 hW hcnd hsz0 _
  have hval : ∀ (j : Nat) t v, Try.f6.params[j]? = some t → args[j]? = some v → Value.okWide Try.prog W .any base t v := hval0
  have hW' := hW
  obtain ⟨p, q, hA0, hV, rfl, hfz, hnd⟩ := hW
  have hA : DataW.TrodAll enc Try.prog W 0 (fun _ => true) true Try.f6.params.toList args.toList ds p := hA0
  rw [Try.params6] at hA hval
  obtain ⟨v0, vs0, d0, ds0, p0, q0, hargs, rfl, rfl, h0, r0⟩ := trodAll_cons hA
  obtain ⟨rfl, rfl, rfl⟩ := trodAll_nil r0
  obtain rfl : args = #[v0] := by cases args; simp_all
  obtain ⟨rfl, rfl⟩ := trodVars_none hV
  have k0 := h0
  have lt0 : ∀ x ∈ p0, x.block < W.heap.size := by obtain ⟨m, hm⟩ := k0; exact DataW.trod_lt m _ _ _ hm
  obtain ⟨fuel0, hf0⟩ := h0
  obtain ⟨cs0, rfl, hsz0⟩ := okWide_struct Try.underlying33 (hval 0 33 v0 rfl rfl)
  obtain ⟨y0, hK0, hq0⟩ := o33 _ _ _ _ _ _ hf0
  have hcs0 := k33_open hK0
  obtain rfl : cs0 = #[.int .i64 y0.f0, .int .i64 y0.f1, .int .i64 y0.f2, .int .i64 y0.f3] := by cases cs0; simpa [Value.cells] using hcs0
  clear hA0 hval0 hsz0
  obtain ⟨k, hh⟩ := Pure.FnExactBoxRegion y0.f0 y0.f1 y0.f2 y0.f3 hq0.1 hq0.2.1 hq0.2.2.1 hq0.2.2.2
  refine (Q.laws_FnExactBoxRegion.calls k y0.f0 y0.f1 y0.f2 y0.f3 true W  hh).mono fun e W' hpost => ?_
  obtain ⟨he, bel0⟩ := hpost
  have bel : Below W.heap.size W W' := bel0
  subst he
  exact ⟨_, rfl, _, _, _, [], _, [], hW', trodAll_mk1 (shut_bool Try.underlying4 _), (trodAll_cons_mk (Below.trod laidOut (by kernel_rfl) (of_decide_eq_true (by kernel_rfl)) k0 bel lt0) trodAll_mk0), rfl, bel.frame _, fun h => by cases h⟩
theorem closed : joinedFacts Try.prog 6 Try.f6 Rows.fnExactBoxRegionSpec Rows.fnExactBoxRegionRow = true := by
  unfold joinedFacts
  rw [Head.mayEnter, Head.liftsFinal, Head.make]
  simp only [Bool.and_eq_true]
  repeat' apply And.intro
  all_goals first | exact True.intro | (as_aux_lemma => kernel_rfl)
theorem over : Rows.fnExactBoxRegionRow.holds Try.pinned (OpenSpec.ofChange Rows.fnExactBoxRegionSpec) :=
  OpenClaim.holds_of_wide 6 Try.f6 rfl rfl rfl rfl rfl rfl rfl ⟨rfl, rfl, rfl, rfl, rfl⟩ rfl rfl rfl rfl rfl (by kernel_rfl) Try.func6 closed
    (of_decide_eq_true (by kernel_rfl)) (by unfold Func.isWrapper; first | (rw [if_pos (by decide +kernel)]; kernel_rfl) | (rw [if_neg (by decide +kernel)]; exact ⟨rfl, rfl⟩))
    (fun os started H enc _ => lifted os started H enc)
theorem proved : Rows.FnExactBoxRegionSaid := over
#print axioms proved
end Go.Proofs.Ytfgeickfheogoaa.fnExactBoxRegion
namespace Go.Proofs.Ytfgeickfheogoaa
/-- The row, under a short name, for the claim. -/
theorem fnExactBoxRegion_holds : Rows.FnExactBoxRegionSaid := fnExactBoxRegion.proved
end Go.Proofs.Ytfgeickfheogoaa
