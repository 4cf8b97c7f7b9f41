/- A part of the proof that the statement FnPatchImageTwiceSaid holds, under no condition of its own: A patch laid twice: the law FnPatchImageTwice over lists of numbers alone. -/
import Derived.Test.YtnofkbbcbpjhfaaCFnPatchImageTwice3
import Derived.Test.YtnofkbbcbpjhfaaCFnPatchImageTwice1
import Derived.Test.YtnofkbbcbpjhfaaCFnPatchImageTwice2
/- Two images of the same shape. -/
namespace Go.Proofs.Ytnofkbbcbpjhfaa.Pure
open Go.RowKit Go.Proofs.Ytnofkbbcbpjhfaa.Q Go.Proofs.YtnofkbbcbpjhfaaW.PrintWords Go.Proofs.YtnofkbbcbpjhfaaW.PrintLast Go.Proofs.YtnofkbbcbpjhfaaW.PrintMore
set_option linter.unusedVariables false
set_option linter.unusedSimpArgs false

def sameV (w h p : Int) (d : List Int) (w' h' p' : Int) (d' : List Int) : Bool := validI w h p d && (validI w' h' p' d' && decide (w = w' ∧ h = h' ∧ p = p'))
theorem sameV_iff (w h p : Int) (d : List Int) (w' h' p' : Int) (d' : List Int) : sameV w h p d w' h' p' d' = true ↔ validI w h p d = true ∧ validI w' h' p' d' = true ∧ w = w' ∧ h = h' ∧ p = p' := by
 simp [sameV]
theorem same_len {w h p : Int} {d : List Int} {w' h' p' : Int} {d' : List Int} (hs : sameV w h p d w' h' p' d' = true) : d.length = d'.length ∧ d.length ≤ 1024 := by
 obtain ⟨h1, h2, rfl, rfl, rfl⟩ := (sameV_iff _ _ _ _ _ _ _ _).1 hs
 have a := (validI_iff _ _ _ _).1 h1
 have b := (validI_iff _ _ _ _).1 h2
 have := shape_prod a.1
 omega
theorem alikeB (w h p w' h' p' : Int) : (if w = w' then (if h = h' then (some (p == p')) else (some false)) else (some false)) = some (decide (w = w' ∧ h = h' ∧ p = p')) := by
 by_cases c1 : w = w'
 ·rw [if_pos c1]
  by_cases c2 : h = h'
  ·rw [if_pos c2]
   by_cases c3 : p = p'
   ·rw [decide_eq_true (show w = w' ∧ h = h' ∧ p = p' from ⟨c1, c2, c3⟩), beq_iff_eq.2 c3]
   ·rw [decide_eq_false (by simp [c3]), beq_eq_false_iff_ne.2 c3]
  ·rw [if_neg c2, decide_eq_false (by simp [c2])]
 ·rw [if_neg c1, decide_eq_false (by simp [c1])]
theorem impl_alike_eq (w h p : Int) (d : List Int) (w' h' p' : Int) (d' : List Int) : impl_alikeImages.f w h p d w' h' p' d' = some (decide (w = w' ∧ h = h' ∧ p = p')) := by
 unfold impl_alikeImages.f
 exact alikeB w h p w' h' p'
theorem spec_sameShape_ev (w h p : Int) (d : List Int) (w' h' p' : Int) (d' : List Int) (hl : d.length ≤ 1000000000000) (hl' : d'.length ≤ 1000000000000) : Ev (fun k => spec_sameShape.f k w h p d w' h' p' d') (sameV w h p d w' h' p' d') := by
 unfold spec_sameShape.f sameV
 refine ev_bind (spec_validImage_ev w h p d hl) ?_
 by_cases c : validI w h p d = true
 ·rw [c, Bool.true_and]
  refine ev_pos rfl (ev_bind (spec_validImage_ev w' h' p' d' hl') ?_)
  by_cases c' : validI w' h' p' d' = true
  ·rw [c', Bool.true_and]
   exact ev_pos rfl (ev_const (alikeB w h p w' h' p'))
  ·rw [Bool.eq_false_iff.2 c', Bool.false_and]
   exact ev_neg (by simp) (Ev.now _)
 ·rw [Bool.eq_false_iff.2 c, Bool.false_and]
  exact ev_neg (by simp) (Ev.now _)

/- The region of a box, as the program and the reference have it. -/

theorem scanRow_len (g : Nat → Bool) (y : Nat) : ∀ d x, 17 ≤ x + d → (scanRow g y x).length ≤ 17 - x := by
 intro d
 induction d with
 | zero => intro x hx; rw [scan_end g y x (by omega)]; simp
 | succ d ih =>
  intro x hx
  by_cases h16 : x < 16
  ·cases hv : g (y * 16 + x) with
   | true =>
    have := endAt_ge g y (16 - x) x
    rw [scan_true g y x h16 hv, List.length_cons]
    have := ih (endAt g y (16 - x) x + 1) (by omega)
    omega
   | false =>
    rw [scan_false g y x h16 hv]
    have := ih (x + 1) (by omega)
    omega
  ·rw [scan_end g y x (by omega)]; simp
theorem runsTo_len (g : Nat → Bool) (n : Nat) : (runsTo g n).length ≤ 17 * n := by
 induction n with
 | zero => simp [runsTo]
 | succ n ih =>
  rw [runsTo_succ, List.length_append]
  have := scanRow_len g n 17 0 (by omega)
  omega
theorem runsL_len (g : Nat → Bool) : (runsL g).length ≤ 272 := runsTo_len g 16

/- Areas and bounds of regions, as the program and the reference have them. -/

def leftR (l : List Run) (s : Int) : Int := l.foldl (fun a r => min a r.f1) s
def rightR (l : List Run) (s : Int) : Int := l.foldl (fun a r => max a r.f2) s
theorem left_range (l : List Run) (h : ∀ r ∈ l, runOK r = true) : ∀ s, 0 ≤ s → s ≤ 16 → 0 ≤ leftR l s ∧ leftR l s ≤ 16 := by
 induction l with
 | nil => intro s h0 h1; exact ⟨h0, h1⟩
 | cons x xs ih =>
  intro s h0 h1
  have h2 := (runOK_iff x).1 (h x (by simp))
  exact ih (fun r hr => h r (by simp [hr])) (min s x.f1) (by omega) (by omega)
theorem right_range (l : List Run) (h : ∀ r ∈ l, runOK r = true) : ∀ s, 0 ≤ s → s ≤ 16 → 0 ≤ rightR l s ∧ rightR l s ≤ 16 := by
 induction l with
 | nil => intro s h0 h1; exact ⟨h0, h1⟩
 | cons x xs ih =>
  intro s h0 h1
  have h2 := (runOK_iff x).1 (h x (by simp))
  exact ih (fun r hr => h r (by simp [hr])) (max s x.f2) (by omega) (by omega)
def boundsR (l : List Run) : Int × Int × Int × Int :=
 (leftR l 16, (l.headD z118).f0, rightR l 0 - leftR l 16, (l.getLastD z118).f0 - (l.headD z118).f0 + 1)
theorem last_wrap (l : List Run) (hn : l ≠ []) (hl : l.length ≤ 1000000000) (h : ∀ r ∈ l, runOK r = true) :
  (if 0 < (l.length : Int) then (if 0 ≤ (wrap64 ((l.length : Int) - 1)) then (if (wrap64 ((l.length : Int) - 1)) < (l.length : Int) then (some (leftR l 16, (rd_T118 l 0).f0, wrap64 (rightR l 0 - leftR l 16), wrap64 ((wrap64 (((rd_T118 l (wrap64 ((l.length : Int) - 1))).f0) - ((rd_T118 l 0).f0))) + 1))) else (none)) else (none)) else (none)) = some (boundsR l) := by
 have hp : 0 < l.length := List.length_pos_iff.2 hn
 have h1 := left_range l h 16 (by omega) (by omega)
 have h2 := right_range l h 0 (by omega) (by omega)
 have e0 : rd_T118 l 0 = l[0] := by simpa using rdRun l 0 hp
 have e1 : wrap64 ((l.length : Int) - 1) = ((l.length - 1 : Nat) : Int) := by rw [w64 (by omega) (by omega)]; omega
 have ha := (runOK_iff _).1 (h l[0] (List.getElem_mem hp))
 have hb := (runOK_iff _).1 (h (l[l.length - 1]'(by omega)) (List.getElem_mem (by omega)))
 rw [if_pos (by omega), e1, if_pos (by omega), if_pos (by omega), rdRun l (l.length - 1) (by omega), e0, w64 (x := rightR l 0 - leftR l 16) (by omega) (by omega), w64 (x := (l[l.length - 1]'(by omega)).f0 - l[0].f0) (by omega) (by omega), w64 (by omega) (by omega)]
 unfold boundsR
 have f1 : l.headD z118 = l[0] := by cases l with
  | nil => exact absurd rfl hn
  | cons x xs => rfl
 have f2 : l.getLastD z118 = l[l.length - 1]'(by omega) := by
  rw [← List.getLast_eq_getElem hn, List.getLastD_eq_getLast?, List.getLast?_eq_some_getLast hn]; rfl
 rw [f1, f2]
theorem foldl_drop {α β : Type} (f : β → α → β) (l : List α) (i : Nat) (h : i < l.length) (s : β) : (l.drop i).foldl f s = (l.drop (i + 1)).foldl f (f s l[i]) := by
 rw [List.drop_eq_getElem_cons h]; rfl
theorem spec_boundsOf_eq (l : List Run) (hn : l ≠ []) (hl : l.length ≤ 1000000000) (h : ∀ r ∈ l, runOK r = true) (k : Nat) (hk : l.length < k) : spec_boundsOf.f k l = some (boundsR l) := by
 have hp : 0 < l.length := List.length_pos_iff.2 hn
 have e0 : rd_T118 l 0 = l[0] := by simpa using rdRun l 0 hp
 have ha := (runOK_iff _).1 (h l[0] (List.getElem_mem hp))
 unfold spec_boundsOf.f
 rw [if_pos (by omega), e0]
 have s1 : leftR l l[0].f1 = leftR l 16 := by
  cases l with
  | nil => exact absurd rfl hn
  | cons x xs =>
   simp only [List.getElem_cons_zero] at ha ⊢
   show leftR xs (min x.f1 x.f1) = leftR xs (min 16 x.f1)
   congr 1; omega
 have s2 : rightR l l[0].f2 = rightR l 0 := by
  cases l with
  | nil => exact absurd rfl hn
  | cons x xs =>
   simp only [List.getElem_cons_zero] at ha ⊢
   show rightR xs (max x.f2 x.f2) = rightR xs (max 0 x.f2)
   congr 1; omega
 have hh := loop_up 0 l.length (fun k i (s : Int × Int) => spec_boundsOf.l0 k l s.1 s.2 (i : Int)) (fun i s => leftR (l.drop i) s.1 = leftR l 16 ∧ rightR (l.drop i) s.2 = rightR l 0) (fun _ _ => boundsR l)
  (by
   intro i s k hi hs _
   refine .inr ⟨(mn s.1 l[i].f1, mx s.2 l[i].f2), ?_, ?_, rfl⟩
   ·simp only [spec_boundsOf.l0]
    rw [if_pos (by omega), if_pos (by omega), rdRun l i hi, w64n i (by omega)]
   ·obtain ⟨q1, q2⟩ := hs
    unfold leftR at q1 ⊢
    unfold rightR at q2 ⊢
    rw [foldl_drop _ l i hi] at q1 q2
    rw [mn_def, mx_def]
    exact ⟨q1, q2⟩)
  (by
   intro s k hs _
   rw [List.drop_length] at hs
   simp only [spec_boundsOf.l0]
   rw [if_neg (by omega)]
   have q1 : s.1 = leftR l 16 := hs.1
   have q2 : s.2 = rightR l 0 := hs.2
   rw [q1, q2]
   exact last_wrap l hn hl h)
  l.length 0 (l[0].f1, l[0].f2) k (by omega) ⟨s1, s2⟩ (by omega)
 exact hh

/- The runs of a grid are a region: their grid is the grid, and their area is the number of its pixels. -/

theorem endAt_le (g : Nat → Bool) (y : Nat) : ∀ n x, x ≤ 16 → endAt g y n x ≤ 16 := by
 intro n
 induction n with
 | zero => intro x h; exact h
 | succ n ih =>
  intro x h
  unfold endAt
  split
  ·rename_i c; exact ih (x + 1) (by omega)
  ·exact h
theorem endAt_in (g : Nat → Bool) (y : Nat) : ∀ n x q, x ≤ q → q < endAt g y n x → g (y * 16 + q) = true := by
 intro n
 induction n with
 | zero => intro x q h1 h2; exact absurd h2 (by simp only [endAt]; omega)
 | succ n ih =>
  intro x q h1 h2
  unfold endAt at h2
  split at h2
  ·rename_i c
   by_cases e : q = x
   ·subst e; exact c.2
   ·exact ih (x + 1) q (by omega) h2
  ·omega
theorem endAt_end (g : Nat → Bool) (y : Nat) : ∀ n x, 16 ≤ n + x → x ≤ 16 → endAt g y n x = 16 ∨ g (y * 16 + endAt g y n x) = false := by
 intro n
 induction n with
 | zero => intro x h1 h2; left; simp only [endAt]; omega
 | succ n ih =>
  intro x h1 h2
  unfold endAt
  split
  ·rename_i c; exact ih (x + 1) (by omega) (by omega)
  ·rename_i c
   by_cases hx : x < 16
   ·right
    cases hv : g (y * 16 + x) with
    | true => exact absurd ⟨hx, hv⟩ c
    | false => rfl
   ·left; omega
theorem runIn_row (y p : Nat) (a b : Nat) : runIn ⟨(y : Int), (a : Int), (b : Int)⟩ p = (decide (p / 16 = y) && (decide (a ≤ p % 16) && decide (p % 16 < b))) := by
 unfold runIn
 rw [Bool.and_assoc]
 congr 1
 ·rw [decide_eq_decide]; simp only; omega
 ·congr 1
  ·rw [decide_eq_decide]; simp only; omega
  ·rw [decide_eq_decide]; simp only; omega
theorem gridF_nil (p : Nat) : gridF [] p = false := rfl
theorem gridF_cons (r : Run) (l : List Run) (p : Nat) : gridF (r :: l) p = (runIn r p || gridF l p) := rfl
theorem gridF_append (l m : List Run) (p : Nat) : gridF (l ++ m) p = (gridF l p || gridF m p) := by unfold gridF; rw [List.any_append]
theorem grid_scan (g : Nat → Bool) (y p : Nat) (hp : p < 256) : ∀ d x, 17 ≤ x + d → gridF (scanRow g y x) p = (decide (p / 16 = y) && (decide (x ≤ p % 16) && g p)) := by
 intro d
 induction d with
 | zero =>
  intro x hx
  rw [scan_end g y x (by omega), gridF_nil, decide_eq_false (show ¬ x ≤ p % 16 by omega), Bool.false_and, Bool.and_false]
 | succ d ih =>
  intro x hx
  by_cases h16 : x < 16
  ·by_cases hy : p / 16 = y
   ·have hpe : p = y * 16 + p % 16 := by omega
    cases hv : g (y * 16 + x) with
    | true =>
     have he := endAt_ge g y (16 - x) x
     have he2 := endAt_le g y (16 - x) x (by omega)
     have hin := endAt_in g y (16 - x) x
     have hend := endAt_end g y (16 - x) x (by omega) (by omega)
     have hst := endAt_step g y x h16 hv
     have he3 := endAt_ge g y (16 - (x + 1)) (x + 1)
     rw [← hst] at he3
     rw [scan_true g y x h16 hv, gridF_cons, runIn_row, ih _ (by omega)]
     generalize endAt g y (16 - x) x = e at *
     rw [decide_eq_true hy, Bool.true_and, Bool.true_and, Bool.true_and]
     by_cases c1 : x ≤ p % 16
     ·rw [decide_eq_true c1, Bool.true_and, Bool.true_and]
      by_cases c2 : p % 16 < e
      ·rw [decide_eq_true c2, Bool.true_or, hpe, hin (p % 16) c1 c2]
      ·rw [decide_eq_false c2, Bool.false_or]
       by_cases c3 : e + 1 ≤ p % 16
       ·rw [decide_eq_true c3, Bool.true_and]
       ·rw [decide_eq_false c3, Bool.false_and]
        rcases hend with h | h
        ·omega
        ·rw [show p % 16 = e by omega] at hpe
         rw [hpe, h]
     ·rw [decide_eq_false c1, Bool.false_and, Bool.false_and, Bool.false_or, decide_eq_false (show ¬ e + 1 ≤ p % 16 by omega), Bool.false_and]
    | false =>
     rw [scan_false g y x h16 hv, ih _ (by omega), decide_eq_true hy, Bool.true_and, Bool.true_and]
     by_cases c : x = p % 16
     ·rw [decide_eq_false (show ¬ x + 1 ≤ p % 16 by omega), Bool.false_and, decide_eq_true (show x ≤ p % 16 by omega), Bool.true_and, hpe, ← c, hv]
     ·congr 1
      rw [decide_eq_decide]; omega
   ·have hall : ∀ d x, 17 ≤ x + d → gridF (scanRow g y x) p = false := by
     intro d
     induction d with
     | zero => intro x hx; rw [scan_end g y x (by omega)]; rfl
     | succ d ih =>
      intro x hx
      by_cases h16 : x < 16
      ·cases hv : g (y * 16 + x) with
       | true =>
        have := endAt_ge g y (16 - x) x
        rw [scan_true g y x h16 hv, gridF_cons, runIn_row, decide_eq_false hy, Bool.false_and, Bool.false_or]
        exact ih _ (by omega)
       | false => rw [scan_false g y x h16 hv]; exact ih _ (by omega)
      ·rw [scan_end g y x (by omega)]; rfl
    rw [hall 17 x (by omega), decide_eq_false hy, Bool.false_and]
  ·rw [scan_end g y x (by omega), gridF_nil, decide_eq_false (show ¬ x ≤ p % 16 by omega), Bool.false_and, Bool.and_false]
theorem grid_runsTo (g : Nat → Bool) (p : Nat) (hp : p < 256) (n : Nat) : gridF (runsTo g n) p = (decide (p / 16 < n) && g p) := by
 induction n with
 | zero => simp [runsTo, gridF]
 | succ n ih =>
  rw [runsTo_succ, gridF_append, ih, grid_scan g n p hp 17 0 (by omega), decide_eq_true (Nat.zero_le _), Bool.true_and]
  by_cases c : p / 16 = n
  ·rw [decide_eq_true c, decide_eq_false (show ¬ p / 16 < n by omega), decide_eq_true (show p / 16 < n + 1 by omega), Bool.false_and, Bool.false_or]
  ·rw [decide_eq_false c, Bool.false_and, Bool.or_false]
   congr 1
   rw [decide_eq_decide]; omega
theorem grid_runs (g : Nat → Bool) (p : Nat) (hp : p < 256) : gridF (runsL g) p = g p := by
 unfold runsL
 rw [grid_runsTo g p hp, decide_eq_true (show p / 16 < 16 by omega), Bool.true_and]
/-! the runs are valid -/
def rowsFrom (g : Nat → Bool) (y n : Nat) : List Run := (List.range' y n).flatMap fun y => scanRow g y 0
theorem rowsFrom_succ (g : Nat → Bool) (y n : Nat) : rowsFrom g y (n + 1) = scanRow g y 0 ++ rowsFrom g (y + 1) n := by
 simp [rowsFrom, List.range'_succ]
theorem runsL_rows (g : Nat → Bool) : runsL g = rowsFrom g 0 16 := by
 unfold runsL runsTo rowsFrom
 rw [List.range_eq_range']
def ahead (y x : Nat) (p : Option Run) : Prop := ∀ r, p = some r → r.f0 < (y : Int) ∨ (r.f0 = (y : Int) ∧ r.f2 < (x : Int))
theorem scan_valid (g : Nat → Bool) (y : Nat) (hy : y < 16) (rest : List Run) (hrest : ∀ p, (∀ r, p = some r → r.f0 ≤ (y : Int)) → validFrom p rest = true) :
  ∀ d x p, 17 ≤ x + d → (ahead y x p ∨ (x = 0 ∧ ∀ r, p = some r → r.f0 < (y : Int))) → validFrom p (scanRow g y x ++ rest) = true := by
 intro d
 induction d with
 | zero =>
  intro x p hx hp
  rw [scan_end g y x (by omega), List.nil_append]
  refine hrest p (fun r hr => ?_)
  rcases hp with hp | hp
  ·have := hp r hr; omega
  ·have := hp.2 r hr; omega
 | succ d ih =>
  intro x p hx hp
  by_cases h16 : x < 16
  ·cases hv : g (y * 16 + x) with
   | true =>
    have he2 := endAt_le g y (16 - x) x (by omega)
    have hst := endAt_step g y x h16 hv
    have he3 := endAt_ge g y (16 - (x + 1)) (x + 1)
    rw [← hst] at he3
    rw [scan_true g y x h16 hv, List.cons_append]
    generalize endAt g y (16 - x) x = e at *
    have hok : runOK ⟨(y : Int), (x : Int), (e : Int)⟩ = true := by rw [runOK_iff]; simp only; omega
    have hnext : validFrom (some ⟨(y : Int), (x : Int), (e : Int)⟩) (scanRow g y (e + 1) ++ rest) = true := by
     refine ih (e + 1) _ (by omega) (.inl (fun r hr => ?_))
     injection hr with hr
     subst hr
     right
     simp only
     exact ⟨trivial, by omega⟩
    cases p with
    | none => simp only [validFrom, hok, hnext, Bool.and_true]
    | some q =>
     have haft : runAfter q ⟨(y : Int), (x : Int), (e : Int)⟩ = true := by
      rw [runAfter_iff]
      simp only
      rcases hp with hp | hp
      ·have := hp q rfl; omega
      ·have := hp.2 q rfl; omega
     simp only [validFrom, hok, haft, hnext, Bool.and_true]
   | false =>
    rw [scan_false g y x h16 hv]
    refine ih (x + 1) p (by omega) (.inl (fun r hr => ?_))
    rcases hp with hp | hp
    ·have := hp r hr; omega
    ·have := hp.2 r hr; omega
  ·rw [scan_end g y x (by omega), List.nil_append]
   refine hrest p (fun r hr => ?_)
   rcases hp with hp | hp
   ·have := hp r hr; omega
   ·have := hp.2 r hr; omega
theorem rows_valid (g : Nat → Bool) : ∀ n y : Nat, y + n ≤ 16 → ∀ p : Option Run, (∀ r, p = some r → r.f0 < (y : Int)) → validFrom p (rowsFrom g y n) = true := by
 intro n
 induction n with
 | zero =>
  intro y _ p _
  cases p <;> rfl
 | succ n ih =>
  intro y hy p hp
  rw [rowsFrom_succ]
  exact scan_valid g y (by omega) _ (fun p' hp' => ih (y + 1) (by omega) p' (fun r hr => by have := hp' r hr; omega)) 17 0 p (by omega) (.inr ⟨rfl, hp⟩)
theorem runs_valid (g : Nat → Bool) : validR (runsL g) = true := by
 rw [runsL_rows]
 exact rows_valid g 16 0 (by omega) none (fun r hr => by cases hr)
/-! their area -/

/- The connected parts of a grid: the program's search through runs and the reference's search through pixels find the same. -/

theorem reach_congr {g g' : Nat → Bool} (h : ∀ p, p < 256 → g p = g' p) {s q : Nat} (hr : Q.Reach g s q) : Q.Reach g' s q := by
 induction hr with
 | here => exact .here
 | step q r _ ha h2 hg ih => exact .step q r ih ha h2 (by rw [← h r h2]; exact hg)
theorem comp_congr {g g' : Nat → Bool} (h : ∀ p, p < 256 → g p = g' p) (s q : Nat) : comp g s q = comp g' s q := by
 rw [Bool.eq_iff_iff, comp_iff, comp_iff]
 exact ⟨reach_congr h, reach_congr (fun p hp => (h p hp).symm)⟩
noncomputable def partsS : Nat → Nat → (Nat → Bool) → List (List Run)
 | 0, _, _ => []
 | n + 1, a, g => if g a = true then runsL (comp g a) :: partsS n (a + 1) (fun q => g q && !(comp g a q)) else partsS n (a + 1) g
theorem partsS_congr : ∀ (n a : Nat) (g g' : Nat → Bool), a + n = 256 → (∀ q, q < 256 → g q = g' q) → partsS n a g = partsS n a g' := by
 intro n
 induction n with
 | zero => intro a g g' _ _; rfl
 | succ n ih =>
  intro a g g' ha h
  unfold partsS
  rw [h a (by omega)]
  have hc := comp_congr h a
  split
  ·congr 1
   ·exact runsL_congr (fun p _ => hc p)
   ·exact ih _ _ _ (by omega) (fun q hq => by rw [h q hq, hc q])
  ·exact ih _ _ _ (by omega) h
theorem partsS_len : ∀ (n a : Nat) (g : Nat → Bool), (partsS n a g).length ≤ n := by
 intro n
 induction n with
 | zero => intro a g; exact Nat.le_refl _
 | succ n ih =>
  intro a g
  unfold partsS
  split
  ·rw [List.length_cons]; have := ih (a + 1) (fun q => g q && !(comp g a q)); omega
  ·have := ih (a + 1) g; omega
theorem partsS_each : ∀ (n a : Nat) (g : Nat → Bool), ∀ r ∈ partsS n a g, ∃ f, r = runsL f := by
 intro n
 induction n with
 | zero => intro a g r hr; cases hr
 | succ n ih =>
  intro a g r hr
  unfold partsS at hr
  split at hr
  ·rcases List.mem_cons.1 hr with c | c
   ·exact ⟨_, c⟩
   ·exact ih _ _ r c
  ·exact ih _ _ r hr
theorem runsL_ne (g : Nat → Bool) (p : Nat) (hp : p < 256) (h : g p = true) : runsL g ≠ [] := by
 intro e
 have := grid_runs g p hp
 rw [e, h] at this
 cases this
theorem partsS_ne : ∀ (n a : Nat) (g : Nat → Bool), a + n ≤ 256 → ∀ r ∈ partsS n a g, r ≠ [] := by
 intro n
 induction n with
 | zero => intro a g _ r hr; cases hr
 | succ n ih =>
  intro a g ha r hr
  unfold partsS at hr
  split at hr
  ·rcases List.mem_cons.1 hr with c | c
   ·rw [c]
    exact runsL_ne _ a (by omega) ((comp_iff g a a).2 .here)
   ·exact ih _ _ (by omega) r c
  ·exact ih _ _ (by omega) r hr

/- Copies of a list of Box: they are the list. -/

abbrev Box := S47

/- The reader of draws: whatever the code's bytes are, it answers, in range. -/

/-- What a reader reads from: at most 2000 bytes. -/
def Bytes (b : List Int) : Prop := b.length ≤ 2000 ∧ ∀ x ∈ b, 0 ≤ x ∧ x ≤ 255
theorem Bytes.rd_ {b : List Int} (h : Bytes b) (i : Int) : 0 ≤ rd b i ∧ rd b i ≤ 255 := by
  unfold rd
  by_cases c : i.toNat < b.length
  · rw [List.getD_eq_getElem?_getD, List.getElem?_eq_getElem c]; exact h.2 _ (List.getElem_mem c)
  · rw [List.getD_eq_getElem?_getD, List.getElem?_eq_none (by omega)]; simp
theorem xor_nn (a b : Int) (ha : 0 ≤ a) (ha' : a < 4611686018427387904) (hb : 0 ≤ b) (hb' : b < 4611686018427387904) : 0 ≤ Go.bits .xor .i64 a b := by
  obtain ⟨a, rfl⟩ := Int.eq_ofNat_of_zero_le ha
  obtain ⟨b, rfl⟩ := Int.eq_ofNat_of_zero_le hb
  have ha2 : a < 2 ^ 62 := by have : (2 : Nat) ^ 62 = 4611686018427387904 := by decide +kernel
                              omega
  have hb2 : b < 2 ^ 62 := by have : (2 : Nat) ^ 62 = 4611686018427387904 := by decide +kernel
                              omega
  have e64 : IntKind.bits .i64 = 64 := rfl
  have hx := Nat.xor_lt_two_pow ha2 hb2
  have h62 : (2 : Nat) ^ 62 = 4611686018427387904 := by decide +kernel
  have h64 : (2 : Nat) ^ 64 = 18446744073709551616 := by decide +kernel
  simp only [Go.bits, BitVec.ofInt_natCast, BitVec.toNat_xor, BitVec.toNat_ofNat, e64]
  rw [Nat.mod_eq_of_lt (by omega), Nat.mod_eq_of_lt (by omega), IntKind.wrap_i64]
  generalize a ^^^ b = z at *
  omega
theorem tmod_range (x n : Int) (hx : 0 ≤ x) (hn : 1 ≤ n) : 0 ≤ Int.tmod x n ∧ Int.tmod x n < n := by
  rw [tmod_nn _ _ hx]
  exact ⟨Int.emod_nonneg _ (by omega), Int.emod_lt_of_pos _ (by omega)⟩
theorem pick_at (b : List Int) (p n : Int) (hb : Bytes b) (hp0 : 0 ≤ p) (hp : p ≤ 1000000000000) :
    ∃ v, (∀ k, 0 < k → spec_reader_pick.f k b p n = some (v, p + 1)) ∧ 0 ≤ v ∧ (1 ≤ n → v < n) ∧ (n < 1 → v = 0) := by
  by_cases hn : n < 1
  · refine ⟨0, fun k hk => ?_, by omega, by omega, fun _ => rfl⟩
    obtain ⟨k, rfl⟩ : ∃ m, k = m + 1 := ⟨k - 1, by omega⟩
    unfold spec_reader_pick.f
    rw [if_pos hn, w64 (by omega) (by omega)]
    simp only [spec_reader_pick.j0, if_true]
  by_cases he : b.length = 0
  · refine ⟨0, fun k hk => ?_, by omega, by omega, fun _ => rfl⟩
    obtain ⟨k, rfl⟩ : ∃ m, k = m + 1 := ⟨k - 1, by omega⟩
    unfold spec_reader_pick.f
    rw [if_neg hn, w64 (by omega) (by omega)]
    simp only [spec_reader_pick.j0, he]; simp
  have hlen := hb.1
  by_cases hlt : p < (b.length : Int)
  · have hr := hb.rd_ p
    have ht := tmod_range (rd b p) n hr.1 (by omega)
    refine ⟨Int.tmod (rd b p) n, fun k hk => ?_, ht.1, fun _ => ht.2, by omega⟩
    obtain ⟨k, rfl⟩ : ∃ m, k = m + 1 := ⟨k - 1, by omega⟩
    unfold spec_reader_pick.f
    rw [if_neg hn, w64 (x := p + 1) (by omega) (by omega)]
    simp only [spec_reader_pick.j0]
    rw [if_neg (by simp only [beq_iff_eq]; omega), w64 (x := p + 1 - 1) (by omega) (by omega), show p + 1 - 1 = p by omega, if_pos hlt, if_pos hp0, if_neg (by omega), w64 (x := rd b p) (by omega) (by omega)]
  · have h1 := tmod_range p (b.length : Int) hp0 (by omega)
    have h2 := tmod_range (p * 7 + 3) (b.length : Int) (by omega) (by omega)
    have r1 := hb.rd_ (Int.tmod p (b.length : Int))
    have r2 := hb.rd_ (Int.tmod (p * 7 + 3) (b.length : Int))
    have hd : 0 ≤ Int.tdiv p (b.length : Int) ∧ Int.tdiv p (b.length : Int) ≤ p := by
      rw [tdiv_nn _ _ hp0]
      exact ⟨Int.ediv_nonneg hp0 (by omega), Int.ediv_le_self _ hp0⟩
    generalize h1e : Int.tmod p (b.length : Int) = t1 at *
    generalize h2e : Int.tmod (p * 7 + 3) (b.length : Int) = t2 at *
    generalize hde : Int.tdiv p (b.length : Int) = d at *
    generalize hr1e : rd b t1 = x1 at *
    generalize hr2e : rd b t2 = x2 at *
    have hx := xor_nn (x1 * 131 + x2 * 1117 + p * 29 + d * 53) ((x1 * 131 + x2 * 1117 + p * 29 + d * 53) / 64) (by omega) (by omega) (by omega) (by omega)
    have ht := tmod_range _ n hx (by omega)
    refine ⟨Int.tmod (Go.bits .xor .i64 (x1 * 131 + x2 * 1117 + p * 29 + d * 53) ((x1 * 131 + x2 * 1117 + p * 29 + d * 53) / 64)) n, fun k hk => ?_, ht.1, fun _ => ht.2, by omega⟩
    obtain ⟨k, rfl⟩ : ∃ m, k = m + 1 := ⟨k - 1, by omega⟩
    unfold spec_reader_pick.f
    rw [if_neg hn, w64 (x := p + 1) (by omega) (by omega)]
    simp only [spec_reader_pick.j0]
    rw [if_neg (by simp only [beq_iff_eq]; omega), w64 (x := p + 1 - 1) (by omega) (by omega), show p + 1 - 1 = p by omega, if_neg hlt, if_neg (by omega),
      w64 (x := p * 7) (by omega) (by omega), w64 (x := p * 7 + 3) (by omega) (by omega), h1e, h2e, hde, hr1e, hr2e, if_pos (by omega), if_pos (by omega), if_pos (by omega), if_pos (by omega), if_neg (by omega),
      w64 (x := x1) (by omega) (by omega), w64 (x := x2) (by omega) (by omega), w64 (x := d) (by omega) (by omega), w64 (x := x1 * 131) (by omega) (by omega), w64 (x := x2 * 1117) (by omega) (by omega), w64 (x := p * 29) (by omega) (by omega), w64 (x := d * 53) (by omega) (by omega),
      w64 (x := x1 * 131 + x2 * 1117) (by omega) (by omega), w64 (x := x1 * 131 + x2 * 1117 + p * 29) (by omega) (by omega), w64 (x := x1 * 131 + x2 * 1117 + p * 29 + d * 53) (by omega) (by omega), tdiv_nn _ 64 (by omega),
      w64 (x := (x1 * 131 + x2 * 1117 + p * 29 + d * 53) / 64) (by omega) (by omega)]
theorem one_at (b : List Int) (p : Int) (l : List Int) (hl : 0 < l.length) (hl' : l.length ≤ 1000) (hb : Bytes b) (hp0 : 0 ≤ p) (hp : p ≤ 1000000000000) :
    ∃ v, (∀ k, 0 < k → spec_reader_one.f k b p l = some (v, p + 1)) ∧ v ∈ l := by
  obtain ⟨v, hv, h0, h1, _⟩ := pick_at b p (l.length : Int) hb hp0 hp
  have h1' := h1 (by omega)
  obtain ⟨v, rfl⟩ := Int.eq_ofNat_of_zero_le h0
  refine ⟨l[v]'(by omega), fun k hk => ?_, List.getElem_mem _⟩
  unfold spec_reader_one.f
  rw [hv k hk]
  simp only [Option.bind_some]
  rw [if_pos (by omega), if_pos (by omega), rd_nat l v (by omega)]
theorem newReader_at (l : List Int) (h : ∀ x ∈ l, 0 ≤ x ∧ x ≤ 255) : ∃ b, spec_newReader.f l = some (b, 0) ∧ Bytes b := by
  unfold spec_newReader.f
  by_cases c : (l.length : Int) > 2000
  · rw [if_pos c, if_pos (by omega)]
    exact ⟨_, rfl, by rw [List.length_take]; omega, fun x hx => h x (List.mem_of_mem_take hx)⟩
  · rw [if_neg c]
    exact ⟨_, rfl, by omega, h⟩
/-- What a law is told of its code: bytes. -/
theorem code_bytes (l : List Int) (h : ∀ x ∈ l, (Lit.int .u8 x).wf = true) : ∀ x ∈ l, 0 ≤ x ∧ x ≤ 255 := by
  intro x hx
  have := h x hx
  simp only [Lit.wf, Bool.and_eq_true, decide_eq_true_eq] at this
  have e1 : IntKind.min .u8 = 0 := by decide
  have e2 : IntKind.max .u8 = 255 := by decide
  omega

/- Images that are drawn from bytes. -/

theorem one_in (b : List Int) (p : Int) (l : List Int) (hl : 0 < l.length) (hl' : l.length ≤ 1000) (hb : Bytes b) (hp0 : 0 ≤ p) (hp : p ≤ 1000000000000) : ∃ v, Ev (fun k => spec_reader_one.f k b p l) (v, p + 1) ∧ v ∈ l := by
 obtain ⟨v, h, hv⟩ := one_at b p l hl hl' hb hp0 hp
 exact ⟨v, ev_of 0 h, hv⟩
theorem pick_in (b : List Int) (p n : Int) (hn : 1 ≤ n) (hb : Bytes b) (hp0 : 0 ≤ p) (hp : p ≤ 1000000000000) : ∃ v, Ev (fun k => spec_reader_pick.f k b p n) (v, p + 1) ∧ 0 ≤ v ∧ v < n := by
 obtain ⟨v, h, h0, h1, _⟩ := pick_at b p n hb hp0 hp
 exact ⟨v, ev_of 0 h, h0, h1 hn⟩
theorem newImage_eq (w h p : Int) (hs : 1 ≤ w ∧ w ≤ 16 ∧ 1 ≤ h ∧ h ≤ 16 ∧ 1 ≤ p ∧ p ≤ 4) : spec_newImage.f w h p = some (w, h, p, List.replicate (w * h * p).toNat 0) := by
 have := shape_prod hs
 unfold spec_newImage.f
 rw [shape_wrap hs, if_pos (by omega), if_pos (by omega)]
theorem randomLoop (b : List Int) (hb : Bytes b) (m : Int) (w h p : Int) : ∀ (n i : Nat) (x pos : Int) (d : List Int), i + n = d.length → 0 ≤ pos → pos + n ≤ 1000000000000 → d.length ≤ 1000000 →
  ∃ (d' : List Int) (q : Int), d'.length = d.length ∧ pos ≤ q ∧ q ≤ pos + n ∧ Ev (fun k => spec_randomImage.l0 k m x (i : Int) b pos w h p d) (w, h, p, d', q) := by
 intro n
 induction n with
 | zero =>
  intro i x pos d hi h0 h1 h2
  refine ⟨d, pos, rfl, by omega, by omega, ?_⟩
  refine Ev.step (f := fun _ => some (w, h, p, d, pos)) (fun k => ?_) (Ev.now _)
  simp only [spec_randomImage.l0]
  rw [if_neg (by omega)]
 | succ n ih =>
  intro i x pos d hi h0 h1 h2
  have go : ∀ (v x' pos' : Int), pos ≤ pos' → pos' ≤ pos + 1 → ∃ (d' : List Int) (q : Int), d'.length = d.length ∧ pos ≤ q ∧ q ≤ pos + ((n + 1 : Nat) : Int) ∧ Ev (fun k => spec_randomImage.l0 k m x' ((i + 1 : Nat) : Int) b pos' w h p (d.set i v)) (w, h, p, d', q) := by
   intro v x' pos' a1 a2
   obtain ⟨d', q, e1, e2, e3, e4⟩ := ih (i + 1) x' pos' (d.set i v) (by rw [List.length_set]; omega) (by omega) (by omega) (by rw [List.length_set]; omega)
   exact ⟨d', q, by rw [e1, List.length_set], by omega, by omega, e4⟩
  by_cases c0 : m = 0
  ·obtain ⟨v, hv, _, _⟩ := pick_in b pos 256 (by omega) hb h0 (by omega)
   obtain ⟨d', q, e1, e2, e3, e4⟩ := go v v (pos + 1) (by omega) (by omega)
   refine ⟨d', q, e1, e2, e3, ?_⟩
   refine Ev.step (f := fun k => (spec_reader_pick.f k b pos 256).bind fun bt => if 0 ≤ (i : Int) then spec_randomImage.l0 k m bt.1 (wrap64 ((i : Int) + 1)) b bt.2 w h p (d.set (i : Int).toNat bt.1) else none) (fun k => ?_) ?_
   ·simp only [spec_randomImage.l0]
    rw [if_pos (by omega), if_pos c0]
   ·refine ev_bind hv (ev_pos (by omega) ?_)
    simp only [Int.toNat_natCast, w64n i (by omega)]
    exact e4
  ·by_cases c1 : m = 1
   ·obtain ⟨v, hv, _, _⟩ := pick_in b pos 5 (by omega) hb h0 (by omega)
    obtain ⟨d', q, e1, e2, e3, e4⟩ := go (Int.tmod (wrap64 ((wrap64 (x + v)) + 254)) 256) (Int.tmod (wrap64 ((wrap64 (x + v)) + 254)) 256) (pos + 1) (by omega) (by omega)
    refine ⟨d', q, e1, e2, e3, ?_⟩
    refine Ev.step (f := fun k => (spec_reader_pick.f k b pos 5).bind fun bt => if 0 ≤ (i : Int) then spec_randomImage.l0 k m (Int.tmod (wrap64 ((wrap64 (x + bt.1)) + 254)) 256) (wrap64 ((i : Int) + 1)) b bt.2 w h p (d.set (i : Int).toNat (Int.tmod (wrap64 ((wrap64 (x + bt.1)) + 254)) 256)) else none) (fun k => ?_) ?_
    ·simp only [spec_randomImage.l0]
     rw [if_pos (by omega), if_neg c0, if_pos c1]
    ·refine ev_bind hv (ev_pos (by omega) ?_)
     simp only [Int.toNat_natCast, w64n i (by omega)]
     exact e4
   ·by_cases c2 : m = 2
    ·obtain ⟨v, hv, _, _⟩ := pick_in b pos 4 (by omega) hb h0 (by omega)
     obtain ⟨d', q, e1, e2, e3, e4⟩ := go (wrap64 (60 * v)) (wrap64 (60 * v)) (pos + 1) (by omega) (by omega)
     refine ⟨d', q, e1, e2, e3, ?_⟩
     refine Ev.step (f := fun k => (spec_reader_pick.f k b pos 4).bind fun bt => if 0 ≤ (i : Int) then spec_randomImage.l0 k m (wrap64 (60 * bt.1)) (wrap64 ((i : Int) + 1)) b bt.2 w h p (d.set (i : Int).toNat (wrap64 (60 * bt.1))) else none) (fun k => ?_) ?_
     ·simp only [spec_randomImage.l0]
      rw [if_pos (by omega), if_neg c0, if_neg c1, if_pos c2]
     ·refine ev_bind hv (ev_pos (by omega) ?_)
      simp only [Int.toNat_natCast, w64n i (by omega)]
      exact e4
    ·obtain ⟨d', q, e1, e2, e3, e4⟩ := go x x pos (by omega) (by omega)
     refine ⟨d', q, e1, e2, e3, Ev.step (fun k => ?_) e4⟩
     simp only [spec_randomImage.l0]
     rw [if_pos (by omega), if_neg c0, if_neg c1, if_neg c2, if_pos (by omega), Int.toNat_natCast, w64n i (by omega)]
theorem randomImage_ev (b : List Int) (pos p : Int) (hb : Bytes b) (h0 : 0 ≤ pos) (h1 : pos ≤ 100000000) (hp : 1 ≤ p ∧ p ≤ 4) :
  ∃ (w h : Int) (d : List Int) (q : Int), 1 ≤ w ∧ w ≤ 8 ∧ 1 ≤ h ∧ h ≤ 8 ∧ (d.length : Int) = w * h * p ∧ 1 ≤ d.length ∧ d.length ≤ 1024 ∧ pos ≤ q ∧ q ≤ pos + 2000 ∧ Ev (fun k => spec_randomImage.f k b pos p) (w, h, p, d, q) := by
 obtain ⟨w, hw, mw⟩ := one_in b pos [3, 4, 2, 5, 1, 8, 6] (by simp) (by simp) hb h0 (by omega)
 obtain ⟨h, hh, mh⟩ := one_in b (pos + 1) [3, 2, 4, 1, 5, 8] (by simp) (by simp) hb (by omega) (by omega)
 obtain ⟨m, hm, _, _⟩ := pick_in b (pos + 1 + 1) 4 (by omega) hb (by omega) (by omega)
 obtain ⟨x, hx, _, _⟩ := pick_in b (pos + 1 + 1 + 1) 256 (by omega) hb (by omega) (by omega)
 have bw : 1 ≤ w ∧ w ≤ 8 := by simp only [List.mem_cons, List.not_mem_nil, or_false] at mw; omega
 have bh : 1 ≤ h ∧ h ≤ 8 := by simp only [List.mem_cons, List.not_mem_nil, or_false] at mh; omega
 have hs : 1 ≤ w ∧ w ≤ 16 ∧ 1 ≤ h ∧ h ≤ 16 ∧ 1 ≤ p ∧ p ≤ 4 := by omega
 have hpr := shape_prod hs
 have hpos : 1 ≤ w * h * p := by
  have e1 : 1 * 1 ≤ w * h := Int.mul_le_mul (by omega) (by omega) (by omega) (by omega)
  have e2 : 1 * 1 ≤ w * h * p := Int.mul_le_mul (by omega) (by omega) (by omega) (by omega)
  omega
 have hlen : (List.replicate (w * h * p).toNat (0 : Int)).length = (w * h * p).toNat := List.length_replicate
 obtain ⟨d', q, e1, e2, e3, e4⟩ := randomLoop b hb m w h p (w * h * p).toNat 0 x (pos + 1 + 1 + 1 + 1) (List.replicate (w * h * p).toNat 0) (by omega) (by omega) (by omega) (by omega)
 refine ⟨w, h, d', q, bw.1, bw.2, bh.1, bh.2, by omega, by omega, by omega, by omega, by omega, ?_⟩
 unfold spec_randomImage.f
 exact ev_bind hw (ev_bind hh (ev_now (newImage_eq w h p hs) (ev_bind hm (ev_bind hx e4))))
theorem anyPlanes_ev (b : List Int) (pos : Int) (hb : Bytes b) (h0 : 0 ≤ pos) (h1 : pos ≤ 100000000) : ∃ p, 1 ≤ p ∧ p ≤ 4 ∧ Ev (fun k => spec_anyPlanes.f k b pos) (p, pos + 1) := by
 obtain ⟨p, hp, mp⟩ := one_in b pos [1, 3, 1, 4, 2] (by simp) (by simp) hb h0 (by omega)
 simp only [List.mem_cons, List.not_mem_nil, or_false] at mp
 refine ⟨p, by omega, by omega, ?_⟩
 unfold spec_anyPlanes.f
 exact ev_bind hp (Ev.now _)
theorem spoilImage_ev (b : List Int) (pos : Int) (w h p : Int) (d : List Int) (hb : Bytes b) (h0 : 0 ≤ pos) (h1 : pos ≤ 100000000) (hd : 1 ≤ d.length) :
  ∃ (w' h' p' : Int) (d' : List Int) (q : Int), d'.length ≤ d.length ∧ pos ≤ q ∧ q ≤ pos + 2 ∧ Ev (fun k => spec_spoilImage.f k b pos w h p d) (w', h', p', d', q) := by
 obtain ⟨v, hv, _, _⟩ := pick_in b pos 40 (by omega) hb h0 (by omega)
 unfold spec_spoilImage.f
 by_cases c0 : v = 0
 ·obtain ⟨x, hx, _⟩ := one_in b (pos + 1) [0, 17, wrap64 (w + 1)] (by simp) (by simp) hb (by omega) (by omega)
  exact ⟨x, h, p, d, pos + 1 + 1, by omega, by omega, by omega, ev_bind hv (ev_pos c0 (ev_bind hx (Ev.now _)))⟩
 ·by_cases c1 : v = 1
  ·exact ⟨w, h, p, d.drop (1 : Int).toNat, pos + 1, by rw [List.length_drop]; omega, by omega, by omega, ev_bind hv (ev_neg c0 (ev_pos c1 (ev_pos (by omega) (Ev.now _))))⟩
  ·by_cases c2 : v = 2
   ·obtain ⟨x, hx, _⟩ := one_in b (pos + 1) [(-1), 256] (by simp) (by simp) hb (by omega) (by omega)
    exact ⟨w, h, p, d.set (0 : Int).toNat x, pos + 1 + 1, by rw [List.length_set]; omega, by omega, by omega, ev_bind hv (ev_neg c0 (ev_neg c1 (ev_pos c2 (ev_bind hx (ev_pos (by omega) (Ev.now _))))))⟩
   ·by_cases c3 : v = 3
    ·obtain ⟨x, hx, _⟩ := one_in b (pos + 1) [0, 5] (by simp) (by simp) hb (by omega) (by omega)
     exact ⟨w, h, x, d, pos + 1 + 1, by omega, by omega, by omega, ev_bind hv (ev_neg c0 (ev_neg c1 (ev_neg c2 (ev_pos c3 (ev_bind hx (Ev.now _))))))⟩
    ·exact ⟨w, h, p, d, pos + 1, by omega, by omega, by omega, ev_bind hv (ev_neg c0 (ev_neg c1 (ev_neg c2 (ev_neg c3 (Ev.now _)))))⟩
theorem anyImage_ev (b : List Int) (pos : Int) (hb : Bytes b) (h0 : 0 ≤ pos) (h1 : pos ≤ 90000000) :
  ∃ (w h p : Int) (d : List Int) (q : Int), d.length ≤ 1024 ∧ pos ≤ q ∧ q ≤ pos + 3000 ∧ Ev (fun k => spec_anyImage.f k b pos) (w, h, p, d, q) := by
 obtain ⟨p, p1, p2, hp⟩ := anyPlanes_ev b pos hb h0 (by omega)
 obtain ⟨w, h, d, q, _, _, _, _, _, d1, d2, q1, q2, hr⟩ := randomImage_ev b (pos + 1) p hb (by omega) (by omega) ⟨p1, p2⟩
 obtain ⟨w', h', p', d', q', d3, q3, q4, hs⟩ := spoilImage_ev b q w h p d hb (by omega) (by omega) d1
 refine ⟨w', h', p', d', q', by omega, by omega, by omega, ?_⟩
 unfold spec_anyImage.f
 exact ev_bind hp (ev_bind hr (ev_bind hs (Ev.now _)))

/- Two images that are drawn from bytes. -/

theorem copyI_eq (l : List Int) (hl : l.length ≤ 1000000) : spec_copyInts.f l = some l := by
 unfold spec_copyInts.f
 simp only [Option.bind_some]
 rw [if_pos (by simp; omega)]
 simp
theorem twoLoop (b : List Int) (hb : Bytes b) (w h p : Int) (d : List Int) (w' h' p' : Int) : ∀ (m : Nat) (pos : Int) (d' : List Int), 0 ≤ pos → pos + 2 * m ≤ 80000000 → m ≤ 1000 → d'.length ≤ 1024 →
  ∃ (u v s : Int) (e : List Int) (q : Int), e.length ≤ 1024 ∧ pos ≤ q ∧ q ≤ pos + 2 * m + 4000 ∧ Ev (fun k => spec_twoImages.l0 k (m : Int) b pos w h p d w' h' p' d') (w, h, p, d, u, v, s, e, q) := by
 have stop : ∀ (m : Nat) (pos : Int) (d' : List Int), 0 ≤ pos → pos ≤ 80000000 → d'.length ≤ 1024 →
   ∃ (u v s : Int) (e : List Int) (q : Int), e.length ≤ 1024 ∧ pos ≤ q ∧ q ≤ pos + 4000 ∧ Ev (fun k => spec_twoImages.j1 k (m : Int) false b pos w h p d w' h' p' d') (w, h, p, d, u, v, s, e, q) := by
  intro m pos d' h0 h1 hd
  obtain ⟨x, hx, _, _⟩ := pick_in b pos 16 (by omega) hb h0 (by omega)
  by_cases c : x = 0
  ·obtain ⟨u, v, s, e, q, he, q1, q2, hq⟩ := anyImage_ev b (pos + 1) hb (by omega) (by omega)
   refine ⟨u, v, s, e, q, he, by omega, by omega, ?_⟩
   refine Ev.step (f := fun k => (spec_reader_pick.f k b pos 16).bind fun bt => if bt.1 = 0 then ((spec_anyImage.f k b bt.2).bind fun z => some (w, h, p, d, z.1, z.2.1, z.2.2.1, z.2.2.2.1, z.2.2.2.2)) else some (w, h, p, d, w', h', p', d', bt.2)) (fun k => ?_) (ev_bind hx (ev_pos c (ev_bind hq (Ev.now _))))
   simp only [spec_twoImages.j1]
   rw [if_neg (by simp)]
  ·refine ⟨w', h', p', d', pos + 1, hd, by omega, by omega, ?_⟩
   refine Ev.step (f := fun k => (spec_reader_pick.f k b pos 16).bind fun bt => if bt.1 = 0 then ((spec_anyImage.f k b bt.2).bind fun z => some (w, h, p, d, z.1, z.2.1, z.2.2.1, z.2.2.2.1, z.2.2.2.2)) else some (w, h, p, d, w', h', p', d', bt.2)) (fun k => ?_) (ev_bind hx (ev_neg c (Ev.now _)))
   simp only [spec_twoImages.j1]
   rw [if_neg (by simp)]
 intro m
 induction m with
 | zero =>
  intro pos d' h0 h1 h2 hd
  obtain ⟨u, v, s, e, q, he, q1, q2, hq⟩ := stop 0 pos d' h0 (by omega) hd
  refine ⟨u, v, s, e, q, he, q1, by omega, Ev.step (fun k => ?_) hq⟩
  simp only [spec_twoImages.l0]
  rw [if_neg (by simp)]
 | succ m ih =>
  intro pos d' h0 h1 h2 hd
  by_cases c : (d'.length : Int) > 0
  ·obtain ⟨x, hx, x0, x1⟩ := pick_in b pos (d'.length : Int) (by omega) hb h0 (by omega)
   obtain ⟨y, hy, _, _⟩ := pick_in b (pos + 1) 256 (by omega) hb (by omega) (by omega)
   obtain ⟨u, v, s, e, q, he, q1, q2, hq⟩ := ih (pos + 1 + 1) (d'.set x.toNat y) (by omega) (by omega) (by omega) (by rw [List.length_set]; exact hd)
   refine ⟨u, v, s, e, q, he, by omega, by omega, ?_⟩
   have hj : Ev (fun k => spec_twoImages.j1 k ((m + 1 : Nat) : Int) true b pos w h p d w' h' p' d') (w, h, p, d, u, v, s, e, q) := by
    refine Ev.step (f := fun k => (spec_reader_pick.f k b pos (d'.length : Int)).bind fun bt => (spec_reader_pick.f k b bt.2 256).bind fun ct => if 0 ≤ bt.1 then (if bt.1 < (d'.length : Int) then spec_twoImages.l0 k (wrap64 (((m + 1 : Nat) : Int) - 1)) b ct.2 w h p d w' h' p' (d'.set (bt.1 : Int).toNat ct.1) else none) else none) (fun k => ?_) (ev_bind hx (ev_bind hy (ev_pos x0 (ev_pos x1 ?_))))
    ·simp only [spec_twoImages.j1]
     rw [if_pos trivial]
    ·rw [w64 (x := ((m + 1 : Nat) : Int) - 1) (by omega) (by omega), show ((m + 1 : Nat) : Int) - 1 = (m : Int) by omega]
     exact hq
   refine Ev.step (fun k => ?_) hj
   simp only [spec_twoImages.l0]
   rw [if_pos (by omega), decide_eq_true c]
  ·obtain ⟨u, v, s, e, q, he, q1, q2, hq⟩ := stop (m + 1) pos d' h0 (by omega) hd
   refine ⟨u, v, s, e, q, he, q1, by omega, Ev.step (fun k => ?_) hq⟩
   simp only [spec_twoImages.l0]
   rw [if_pos (by omega), decide_eq_false c]
theorem twoImages_ev (b : List Int) (pos : Int) (hb : Bytes b) (h0 : 0 ≤ pos) (h1 : pos ≤ 1000000) :
  ∃ (w h p : Int) (d : List Int) (w' h' p' : Int) (d' : List Int) (q : Int), d.length ≤ 1024 ∧ d'.length ≤ 1024 ∧ pos ≤ q ∧ q ≤ pos + 9000 ∧ Ev (fun k => spec_twoImages.f k b pos) (w, h, p, d, w', h', p', d', q) := by
 obtain ⟨w, h, p, d, q, hd, q1, q2, hi⟩ := anyImage_ev b pos hb h0 (by omega)
 obtain ⟨m, hm, m0, m1⟩ := pick_in b q 6 (by omega) hb (by omega) (by omega)
 obtain ⟨M, rfl⟩ := Int.eq_ofNat_of_zero_le m0
 obtain ⟨u, v, s, e, q', he, q3, q4, hl⟩ := twoLoop b hb w h p d w h p M (q + 1) d (by omega) (by omega) (by omega) hd
 refine ⟨w, h, p, d, u, v, s, e, q', hd, he, by omega, by omega, ?_⟩
 unfold spec_twoImages.f
 exact ev_bind hi (ev_now (copyI_eq d (by omega)) (ev_bind hm hl))

/- Lists of numbers and images, compared one by one. -/

theorem equalIntsC (l m : List Int) (hl : l.length ≤ 1000000) : Ev (fun k => laws_equalInts.f k l m) (decide (l = m)) := by
 unfold laws_equalInts.f
 by_cases hn : l.length = m.length
 ·have key := ev_up l.length (fun k i (_ : Unit) => laws_equalInts.l0 k l m (i : Int)) (fun _ _ => True) (fun i _ => decide (l.drop i = m.drop i))
   (by
    intro i s hi _
    have e1 := List.drop_eq_getElem_cons hi
    have e2 := List.drop_eq_getElem_cons (show i < m.length by omega)
    by_cases c : l[i] = m[i]'(by omega)
    ·refine .inr ⟨(), fun k => ?_, trivial, ?_⟩
     ·simp only [laws_equalInts.l0]
      rw [if_pos (by omega), if_pos (by omega), if_pos (by omega), rd_nat l i hi, rd_nat m i (by omega), if_pos c, w64n i (by omega)]
     ·rw [e1, e2, decide_eq_decide, List.cons.injEq]
      exact ⟨fun h => ⟨c, h⟩, fun h => h.2⟩
    ·left
     rw [e1, e2, decide_eq_false (by rw [List.cons.injEq]; exact fun h => c h.1)]
     refine Ev.step (f := fun _ => some false) (fun k => ?_) (Ev.now _)
     simp only [laws_equalInts.l0]
     rw [if_pos (by omega), if_pos (by omega), if_pos (by omega), rd_nat l i hi, rd_nat m i (by omega), if_neg c])
   (by
    intro s _
    refine Ev.step (f := fun _ => some true) (fun k => ?_) (ev_const (by rw [List.drop_length, hn, List.drop_length]; rfl))
    simp only [laws_equalInts.l0]
    rw [if_neg (by omega)])
   l.length 0 () (by omega) trivial
  exact ev_pos (by omega) (by simpa using key)
 ·refine ev_neg (by omega) ?_
  rw [decide_eq_false (fun h => hn (by rw [h]))]
  exact Ev.now _
theorem equalImage_ev (a b p : Int) (d : List Int) (a' b' p' : Int) (d' : List Int) (hl : d.length ≤ 1000000) : Ev (fun k => laws_equalImage.f k a b p d a' b' p' d') (decide (a = a' ∧ b = b' ∧ p = p' ∧ d = d')) := by
 unfold laws_equalImage.f
 by_cases c1 : a = a'
 ·refine ev_pos c1 ?_
  by_cases c2 : b = b'
  ·refine ev_pos c2 ?_
   by_cases c3 : p = p'
   ·refine ev_pos c3 ?_
    rw [decide_eq_decide.2 (show (a = a' ∧ b = b' ∧ p = p' ∧ d = d') ↔ d = d' from ⟨fun h => h.2.2.2, fun h => ⟨c1, c2, c3, h⟩⟩)]
    exact ev_bind (equalIntsC d d' hl) (Ev.now _)
   ·refine ev_neg c3 ?_
    rw [decide_eq_false (fun h => c3 h.2.2.1)]
    exact Ev.now _
  ·refine ev_neg c2 ?_
   rw [decide_eq_false (fun h => c2 h.2.1)]
   exact Ev.now _
 ·refine ev_neg c1 ?_
  rw [decide_eq_false (fun h => c1 h.1)]
  exact Ev.now _

/- A box that is drawn from bytes. -/

theorem anyBox_any (b : List Int) (pos : Int) (hB : Bytes b) (h0 : 0 ≤ pos) (h1 : pos ≤ 1000000) : ∃ (X Y W H : Int), Ev (fun k => spec_anyBox.f k b pos) (X, Y, W, H, pos + 1 + 1 + 1 + 1) := by
 obtain ⟨x0, g0, _⟩ := one_at b pos [0, 1, 2, (-1), 0, 4] (by simp) (by simp) hB (by omega) (by omega)
 obtain ⟨x1, g1, _⟩ := one_at b (pos + 1) [0, 1, 0, 2, (-1)] (by simp) (by simp) hB (by omega) (by omega)
 obtain ⟨x2, g2, _⟩ := one_at b (pos + 1 + 1) [1, 2, 3, 1, 0, 16] (by simp) (by simp) hB (by omega) (by omega)
 obtain ⟨x3, g3, _⟩ := one_at b (pos + 1 + 1 + 1) [1, 2, 1, 3, 0] (by simp) (by simp) hB (by omega) (by omega)
 refine ⟨x0, x1, x2, x3, ?_⟩
 unfold spec_anyBox.f
 exact ev_bind (ev_of 0 g0) (ev_bind (ev_of 0 g1) (ev_bind (ev_of 0 g2) (ev_bind (ev_of 0 g3) (Ev.now _))))

/- GapOf, as the program and the reference have it. -/

def gapTo (a b : List Int) : Nat → Int
 | 0 => 0
 | i + 1 => wrap64 (gapTo a b i + wrap64 (wrap64 (rd a i - rd b i) * wrap64 (rd a i - rd b i)))
def gapV (w h p : Int) (d : List Int) (w' h' p' : Int) (d' : List Int) : Int := if sameV w h p d w' h' p' d' = true then gapTo d d' d.length else -1
theorem impl_GapOf_ev (w h p : Int) (d : List Int) (w' h' p' : Int) (d' : List Int) (hl : d.length ≤ 1000000000000) : Ev (fun k => impl_GapOf.f k w h p d w' h' p' d') (gapV w h p d w' h' p' d') := by
 have hj : Ev (fun k => impl_GapOf.j0 k (!(sameV w h p d w' h' p' d')) w h p d w' h' p' d') (gapV w h p d w' h' p' d') := by
  unfold gapV
  by_cases c : sameV w h p d w' h' p' d' = true
  ·rw [if_pos c]
   have hn := same_len c
   have key := ev_up d.length (fun k i (s : Int) => impl_GapOf.l0 k s d (d.length : Int) (i : Int) w' h' p' d') (fun i s => s = gapTo d d' i) (fun _ _ => gapTo d d' d.length)
    (by
     intro i s hi hs
     right
     refine ⟨gapTo d d' (i + 1), fun k => ?_, rfl, rfl⟩
     simp only [impl_GapOf.l0]
     rw [if_pos (by omega), if_pos (by omega), if_pos (by omega), if_pos (by omega), w64n i (by omega), hs]
     rfl)
    (by
     intro s hs
     refine Ev.step (f := fun _ => some s) (fun k => ?_) (ev_const (by rw [hs]))
     simp only [impl_GapOf.l0]
     rw [if_neg (by omega)])
    d.length 0 0 (by omega) rfl
   refine Ev.step (fun k => ?_) key
   simp only [impl_GapOf.j0]
   rw [if_neg (by rw [c]; simp)]
   rfl
  ·rw [if_neg c]
   refine Ev.step (f := fun _ => some (-1)) (fun k => ?_) (Ev.now _)
   simp only [impl_GapOf.j0]
   rw [if_pos (by rw [Bool.eq_false_iff.2 c]; rfl)]
 unfold impl_GapOf.f
 refine ev_now (impl_isImage_eq w h p d) ?_
 by_cases c : validI w h p d = true
 ·refine ev_pos c (ev_now (impl_isImage_eq w' h' p' d') ?_)
  by_cases c' : validI w' h' p' d' = true
  ·refine ev_pos c' (ev_now (impl_alike_eq w h p d w' h' p' d') ?_)
   have e : sameV w h p d w' h' p' d' = decide (w = w' ∧ h = h' ∧ p = p') := by unfold sameV; rw [c, c', Bool.true_and, Bool.true_and]
   rw [e] at hj
   exact hj
  ·refine ev_neg c' ?_
   have e : sameV w h p d w' h' p' d' = false := by unfold sameV; rw [Bool.eq_false_iff.2 c', Bool.false_and, Bool.and_false]
   rw [e] at hj
   exact hj
 ·refine ev_neg c ?_
  have e : sameV w h p d w' h' p' d' = false := by unfold sameV; rw [Bool.eq_false_iff.2 c, Bool.false_and]
  rw [e] at hj
  exact hj
end Go.Proofs.Ytnofkbbcbpjhfaa.Pure

/- (impl.Image).at: the numbers of a pixel, in the memory of the image. -/
namespace Go.Proofs.Ytnofkbbcbpjhfaa.Q
open Go.RowKit Go.Proofs.YtnofkbbcbpjhfaaW.PrintWords Go.Proofs.YtnofkbbcbpjhfaaW.PrintLast Go.Proofs.YtnofkbbcbpjhfaaW.PrintMore
attribute [local go_sem] max2_int min2_int max_two min_two max_three min_three max_four min_four
set_option linter.unusedVariables false
set_option linter.unusedSimpArgs false
open Go.Proofs.Ytnofkbbcbpjhfaa.Pure

def pixT (d : List Int) (j p : Int) : List Int := (d.take (wrap64 (j + p) : Int).toNat).drop (j : Int).toNat
set_option maxHeartbeats 1600000 in
set_option maxRecDepth 100000 in
theorem at_callsX (a b p : Int) (A : Option Addr) (c n : Nat) (x y j : Int) (hc : n ≤ c) (hj : wrap64 ((wrap64 ((wrap64 (y * a)) + x)) * p) = j) (h0 : 0 ≤ j) (h1 : j ≤ wrap64 (j + p)) (h2 : wrap64 (j + p) ≤ (n : Int)) (A' : Option Addr) (hA : A' = if c = j.toNat then A else A.map (·.add (j.toNat * 1))) (w : World) :
  Calls Try.prog 109 #[.agg #[.int .i64 a, .int .i64 b, .int .i64 p, .slice A n c], .int .i64 x, .int .i64 y] w fun e w' => e = .returned (.slice A' ((wrap64 (j + p)).toNat - j.toNat) (c - j.toNat)) ∧ Below w.heap.size w w' := by
 obtain ⟨i0, hi0, _, hsz, _⟩ := info_parts info3
 have hcut := cut_mid (P := Try.prog) 22 3 .i64 .i64 Try.underlying22 hi0 1 hsz A n c j (wrap64 (j + p)) h0 h1 h2 hc
 rw [← hA] at hcut
 clear hA
 have hu := Try.underlying27
 have hjw : (IntKind.i64.wrap ((wrap64 ((wrap64 (y * a)) + x)) * p)) = j := (i64_w _).trans hj
 have d0 : decide (0 ≤ j) = true := decide_eq_true h0
 have d1 : decide (j ≤ wrap64 (j + p)) = true := decide_eq_true h1
 have d2 : decide (wrap64 (j + p) ≤ (n : Int)) = true := decide_eq_true h2
 have e0 := eq_true h0
 have e1 := eq_true h1
 have e2 := eq_true h2
 clear hi0 hsz hj
 go_enter Try.func109, Try.ntmps109
 go_wp2_with (first | ((with_reducible refine gate_dst (N := 3) rfl ?_); refine box_event ?hg (N := 3) ?hd (cs := #[.int .i64 a, .int .i64 b, .int .i64 p, .slice A n c]) (t := 27) ?hr ?_; (case hd => rfl); (case hg => rfl); (case hr => first | (go_simp; done) | (go_simp; rfl)); intro gb hg w9 hbox hb; have HB := Aside0.mk (below_step (Below.refl w.heap.size w) hb); have BK := Aside0.mk hbox; have hcz0 : w9.cell? ⟨gb, 0, none⟩ = some (.int .i64 a) := (blk_cell BK.out 0).trans rfl; have hcz1 : w9.cell? ⟨gb, 1, none⟩ = some (.int .i64 b) := (blk_cell BK.out 1).trans rfl; have hcz2 : w9.cell? ⟨gb, 2, none⟩ = some (.int .i64 p) := (blk_cell BK.out 2).trans rfl; have hcz3 : w9.cell? ⟨gb, 3, none⟩ = some (.slice A n c) := (blk_cell BK.out 3).trans rfl; clear hbox hb hg))
 go_ret
 exact ⟨rfl, HB.out⟩
theorem pixT_length (d : List Int) (j p : Int) (h2 : wrap64 (j + p) ≤ (d.length : Int)) : (pixT d j p).length = (wrap64 (j + p)).toNat - j.toNat := by
 unfold pixT
 rw [List.length_drop, List.length_take, Nat.min_eq_left (by omega)]
theorem pixT_C {w : World} {A : Option Addr} {c : Nat} {d : List Int} {j p : Int} (h : Kd.C (Kd.int .i64) w A d.length d) (hc : d.length ≤ c) (h1 : j ≤ wrap64 (j + p)) (h2 : wrap64 (j + p) ≤ (d.length : Int)) :
  Kd.C (Kd.int .i64) w (if c = j.toNat then A else A.map (·.add (j.toNat * 1))) (pixT d j p).length (pixT d j p) := Kd.C_mid h (by omega) (by omega) hc
theorem at_calls (a b p : Int) (A : Option Addr) (c : Nat) (d : List Int) (x y j : Int) (hc : d.length ≤ c) (hj : wrap64 ((wrap64 ((wrap64 (y * a)) + x)) * p) = j) (h0 : 0 ≤ j) (h1 : j ≤ wrap64 (j + p)) (h2 : wrap64 (j + p) ≤ (d.length : Int)) :
  ∃ (A' : Option Addr) (c' : Nat), (pixT d j p).length ≤ c' ∧ ∀ w : World, Kd.C (Kd.int .i64) w A d.length d → (Kd.C (Kd.int .i64) w A' (pixT d j p).length (pixT d j p) ∧
   Calls Try.prog 109 #[.agg #[.int .i64 a, .int .i64 b, .int .i64 p, .slice A d.length c], .int .i64 x, .int .i64 y] w fun e w' => e = .returned (.slice A' (pixT d j p).length c') ∧ Below w.heap.size w w') := by
 refine ⟨_, c - j.toNat, by rw [pixT_length d j p h2]; omega, fun w hr => ⟨pixT_C hr hc h1 h2, ?_⟩⟩
 rw [pixT_length d j p h2]
 exact at_callsX a b p A c d.length x y j hc hj h0 h1 h2 _ rfl w

/- Rows of bools that hold a grid: what is made, read and written. -/

theorem tabR_cell {W : World} {base g cap : Nat} {ok : Nat → Prop} {f : Nat → Bool} (h : Kd.bool.R 4 W base ok (.slice (some ⟨g, 0, none⟩) 256 cap) (tab f)) (i : Nat) (hi : i < 256) : W.cell? ⟨g, i, none⟩ = some (.bool (f i)) ∧ W.frozen? ⟨g, i, none⟩ = false := by
  have hl := tab_length f
  have h' : Kd.bool.R 4 W base ok (.slice (some ⟨g, 0, none⟩) (tab f).length cap) (tab f) := by rw [hl]; exact h
  have := Kd.R_cell false h' (i : Int) (by omega) (by omega)
  rw [Int.toNat_natCast, tab_get f i hi] at this
  exact this
theorem tabR_put {W : World} {base g cap : Nat} {ok : Nat → Prop} {f : Nat → Bool} (h : Kd.bool.R 4 W base ok (.slice (some ⟨g, 0, none⟩) 256 cap) (tab f)) (i : Nat) (b : Bool) : Kd.bool.R 4 (W.setCell ⟨g, i, none⟩ (.bool b)) base ok (.slice (some ⟨g, 0, none⟩) 256 cap) (tab fun p => if p = i then b else f p) := by
  have hl := tab_length f
  have h' : Kd.bool.R 4 W base ok (.slice (some ⟨g, 0, none⟩) (tab f).length cap) (tab f) := by rw [hl]; exact h
  have := (Kd.R_put h' (i : Int) b).1
  rw [Int.toNat_natCast, tab_set, hl] at this
  exact this
theorem tab_of (l : List Bool) (h : l.length = 256) : l = tab (fun p => l.getD p false) := by
  refine List.ext_getElem (by rw [tab_length]; exact h) (fun j h1 h2 => ?_)
  simp [tab, List.getD_eq_getElem?_getD, List.getElem?_eq_getElem h1]
theorem tabC_at {W : World} {A : Option Addr} {f : Nat → Bool} (h : Kd.bool.C W A 256 (tab f)) : ∃ ad, A = some ad ∧ ∀ i : Int, 0 ≤ i → i < 256 → W.cell? (ad.add i.toNat) = some (.bool (rdT f i)) := by
  obtain ⟨ad, rfl, _⟩ := Kd.at_bool h 0 (by omega) (by omega)
  refine ⟨ad, rfl, fun i h0 h1 => ?_⟩
  obtain ⟨ad', e, hc⟩ := Kd.at_bool h i h0 (by omega)
  cases e
  exact hc
end Go.Proofs.Ytnofkbbcbpjhfaa.Q

/- spec.spreadFrom: the pixels that are connected with a pixel, as the reference has them. -/
namespace Go.Proofs.Ytnofkbbcbpjhfaa.Q
open Go.RowKit Go.Proofs.YtnofkbbcbpjhfaaW.PrintWords Go.Proofs.YtnofkbbcbpjhfaaW.PrintLast Go.Proofs.YtnofkbbcbpjhfaaW.PrintMore
open Go.Proofs.YtnofkbbcbpjhfaaW.PrintWords.Aside0 (mk)
attribute [local go_sem] max2_int min2_int max_two min_two max_three min_three max_four min_four
set_option linter.unusedVariables false
set_option linter.unusedSimpArgs false
open Go.Proofs.Ytnofkbbcbpjhfaa.Pure

noncomputable def spec_spreadFrom.f (l0 : List Bool) (a1 : Int) : Option (List Bool) := if l0.length = 256 ∧ 0 ≤ a1 ∧ a1 < 256 then some (tab (comp (fun p => l0.getD p false) a1.toNat)) else none

theorem inRange_eq' (n a b : Int) : spec_inRange.f n a b = some (decide (a ≤ n) && decide (n ≤ b)) := by
 unfold spec_inRange.f
 by_cases c : a ≤ n
 ·rw [if_pos c, decide_eq_true c, Bool.true_and]
 ·rw [if_neg c, decide_eq_false c, Bool.false_and]
def nbS (x y d : Nat) : Int × Int := match d with
 | 0 => ((x : Int) + 1, (y : Int))
 | 1 => ((x : Int) - 1, (y : Int))
 | 2 => ((x : Int), (y : Int) + 1)
 | _ => ((x : Int), (y : Int) - 1)
def nbListS (x y : Nat) : List (Int × Int) := [nbS x y 0, nbS x y 1, nbS x y 2, nbS x y 3]
theorem nbListS_drop (x y d : Nat) (h : d < 4) : (nbListS x y).drop d = ((nbS x y d).1, (nbS x y d).2) :: (nbListS x y).drop (d + 1) := by
 obtain rfl | rfl | rfl | rfl : d = 0 ∨ d = 1 ∨ d = 2 ∨ d = 3 := by omega
 all_goals rfl
theorem nbS_mem (x y p r : Nat) (hx : x = p % 16) (hy : y = p / 16) (hp : p < 256) (hr : r < 256) (ha : Adj p r) : (((r % 16 : Nat) : Int), ((r / 16 : Nat) : Int)) ∈ nbListS x y := by
 have := adj_nb p r hp hr ha
 unfold nbListS nbS
 simp only [List.mem_cons, Prod.mk.injEq]
 omega
def lenT : Value → Nat
 | .slice _ n _ => n
 | _ => 0
def outT (W : World) (B : Nat) (p : Nat) : Bool := match W.cell? ⟨B, p, none⟩ with
 | some (.bool b) => b
 | _ => false
theorem unseen_outT {W : World} {base B cap : Nat} {ok : Nat → Prop} {o : Nat → Bool} (h : Kd.bool.R 4 W base ok (.slice (some ⟨B, 0, none⟩) 256 cap) (tab o)) : unseen (outT W B) = unseen o := by
 unfold unseen
 refine List.countP_congr (fun p hp => ?_)
 have : outT W B p = o p := by unfold outT; rw [(tabR_cell h p (by simpa using hp)).1]
 rw [this]

set_option maxHeartbeats 12000000 in
set_option maxRecDepth 100000 in
theorem spread_calls (A0 : Option Addr) (c0 : Nat) (g : Nat → Bool) (s : Nat) (hs : s < 256) (w : World) (hr0 : Kd.bool.C w A0 256 (tab g)) (hc0 : 256 ≤ c0) :
  Calls Try.prog 159 #[.slice A0 256 c0, .int .i64 (s : Int)] w fun e w' => ∃ v0_ : Value, e = .returned (v0_) ∧ Kd.bool.R 4 w' w.heap.size (fun _ => True) v0_ (tab (comp g s)) ∧ Below w.heap.size w w' := by
 obtain ⟨ad, rfl, HRD⟩ := tabC_at hr0
 have HR := mk hr0
 have HRC := mk (fun (W : World) (hb : Below w.heap.size w W) (i : Int) (h0 : 0 ≤ i) (h1 : i < 256) => show W.cell? (ad.add i.toNat) = some (.bool (rdT g i)) from by
  obtain ⟨ad', e, h⟩ := tabC_at (Kd.C_below HR.out hb)
  cases e
  exact h i h0 h1)
 clear hr0 HRD
 go_enter Try.func159, Try.ntmps159
 go_wp2_with (first
  | ((with_reducible refine gate_dst (N := 16) rfl ?_); refine Kd.R_make Kd.bool w.heap.size 4 rfl (N := 16) rfl 162 _ _ rfl 256 rfl rfl Try.underlying162 (.bool false) 1 info4 rfl (by decide) (by omega) false (ok := fun _ => True) (okp := fun _ => True) rfl (fun _ hk => hk) trivial (by omega) (by omega) (Below.refl _ _) (Nat.le_refl _) ?_; intro v1 w1 ho1 hb1 hg1 hn1; clear hg1 hn1; rw [show (256 : Int).toNat = 256 from rfl, tab_false] at ho1; obtain ⟨B, cap, hv1, hBb, hBl, _⟩ := Kd.R_form ho1 (by rw [tab_length]; omega); rw [tab_length] at hv1; subst hv1; have HO1 := mk ho1; have HB1 := mk hb1; have HBL := mk hBb; clear ho1 hb1 hBb hBl)
  | ((with_reducible refine gate_dst (N := 18) rfl ?_); refine Kd.R_lit (Kd.int .i64) w.heap.size 3 ?hg (N := 18) ?hd (xs := [(s : Int)]) (inner := [.int .i64 (s : Int)]) (ok := fun _ => True) (okp := fun _ => True) ?hr ?hp (fun _ hk => hk) trivial HB1.out HB1.out.size (by simp) ?_; (case hd => rfl); (case hg => rfl); (case hr => first | (go_simp; done) | (go_simp; rfl)); (case hp => exact Reps.snoc (Reps.none _ _) rfl rfl); intro v2 w2 ho2 hb2 hg2 hn2; have HS2 := mk ho2; have HB2 := mk hb2; have HO2 := mk (Kd.R_grown HO1.out hg2 (fun _ _ => by simp)); have hcs := (tabR_cell HO2.out s hs).1; have hcf := (tabR_cell HO2.out s hs).2; clear ho2 hb2 hg2 hn2))
 obtain ⟨cc, hcc⟩ := Kd.R_typed HO2.out B rfl
 have HS3 := mk (Kd.R_set HS2.out hcc (by decide) s (.bool true))
 have HO3 := mk (tabR_put HO2.out s true)
 have HB3 := mk (below_set (g := B) (j := s) (v := .bool true) HB2.out HBL.out)
 have hinit : (fun p => if p = s then true else false) = fun q => decide (q = s) := by
  funext p
  by_cases e : p = s
  ·rw [if_pos e, decide_eq_true e]
  ·rw [if_neg e, decide_eq_false e]
 have HM0 := mk (mid_init g s hs)
 rw [← hinit] at HM0
 have HU0 : unseen (fun p => if p = s then true else false) + 1 = 256 := by
  have h := unseen_set (fun _ => false) s hs rfl
  have h2 : unseen (fun _ => false) = 256 := by simp [unseen]
  rw [h2] at h
  exact h
 clear hinit hcc hcs hcf HO2 HS2 HB2 HO1 HB1
 go_loopw [6] (fun v6 W => ∃ (out : Nat → Bool) (st : List Nat) (p0 : Nat), Aside0 (Kd.R (Kd.int .i64) 3 W w.heap.size (fun _ => True) v6 (st.map fun (n : Nat) => (n : Int)) ∧ Kd.bool.R 4 W w.heap.size (fun _ => True) (.slice (some ⟨B, 0, none⟩) 256 cap) (tab out) ∧ Below w.heap.size w W) ∧
  Aside0 (Mid g s out st p0 [] ∧ st.length + unseen out ≤ 256)) (fun v6 W => 2 * unseen (outT W B) + lenT v6)
 case atStart => exact ⟨_, [s], s, ⟨HS3.out, HO3.out, HB3.out⟩, ⟨HM0.out, by simp only [List.length_singleton]; omega⟩⟩
 case round =>
  obtain ⟨out, st, p0, HW, HM⟩ := hrel
  clear HM0 HU0 HS3 HO3 HB3
  obtain ⟨wo, rfl⟩ : ∃ wo : World, wo = wr := ⟨_, rfl⟩
  have HMS := mk (unseen_outT HW.out.2.1)
  by_cases hz : st = []
  ·subst hz
   have hl := Kd.Q_slice (Kd.Q_of_R HW.out.1)
   obtain ⟨A6, c6, h6, _⟩ := hl
   simp only [List.map_nil, List.length_nil] at h6
   subst h6
   have HE := mk (tab_congr (mid_end hs HM.out.1))
   go_wp2
   go_ret
   exact ⟨_, rfl, by rw [← HE.out]; exact HW.out.2.1, HW.out.2.2⟩
  ·obtain ⟨st', p, rfl⟩ : ∃ st' p, st = st' ++ [p] := ⟨st.dropLast, st.getLast hz, (List.dropLast_concat_getLast hz).symm⟩
   clear hz
   obtain ⟨g6, c6, h6, hgb, hgl, _⟩ := Kd.R_form HW.out.1 (by simp)
   obtain ⟨m, hm⟩ : ∃ m, m = st'.length := ⟨_, rfl⟩
   have hlen : ((st' ++ [p]).map fun (n : Nat) => (n : Int)).length = m + 1 := by simp [hm]
   rw [hlen] at h6
   subst h6
   have hR6 := HW.out.1
   have hR6' : Kd.R (Kd.int .i64) 3 wo w.heap.size (fun _ => True) (.slice (some ⟨g6, 0, none⟩) ((st' ++ [p]).map fun (n : Nat) => (n : Int)).length c6) ((st' ++ [p]).map fun (n : Nat) => (n : Int)) := by rw [hlen]; exact hR6
   have hcell := (Kd.R_cell (0 : Int) hR6' (m : Int) (by omega) (by rw [hlen]; omega)).1
   have hrd : rdOf (0 : Int) ((st' ++ [p]).map fun (n : Nat) => (n : Int)) (m : Int) = (p : Int) := by
    unfold rdOf
    rw [Int.toNat_natCast, List.getD_eq_getElem?_getD, hm]
    simp
   rw [hrd, Int.toNat_natCast] at hcell
   have hcell' : wo.cell? ⟨g6, m, none⟩ = some (.int .i64 (p : Int)) := hcell
   have HT6 := mk (show Kd.R (Kd.int .i64) 3 wo w.heap.size (fun _ => True) (.slice (some ⟨g6, 0, none⟩) m c6) (st'.map fun (n : Nat) => (n : Int)) from by
    have h := Kd.R_take (m := m) hR6' (by rw [hlen]; omega)
    rw [List.map_append, List.take_left' (by simp [hm])] at h
    exact h)
   have hp256 : p < 256 := (HM.out.1.todo_ok p (by simp)).1
   have hmc : m + 1 ≤ c6 := (Kd.R_reads' hR6).2.1
   have hm256 : m < 256 := by have h := HM.out.2; rw [List.length_append, List.length_singleton, ← hm] at h; omega
   have HML := mk hm
   clear hcell hrd hR6 hR6' hlen hm
   have hmp : decide ((0 : Int) < ((m + 1 : Nat) : Int)) = true := by simp
   obtain ⟨i0, hi0, _, hsz0, _⟩ := info_parts info3
   have HCUT := mk (cut_to (P := Try.prog) 22 3 .i64 Try.underlying22 hi0 (some ⟨g6, 0, none⟩) (m + 1) c6 (m : Int) (by omega) (by omega) hmc)
   clear hi0 hsz0
   obtain ⟨x0, hx0⟩ : ∃ x0 : Nat, x0 = p % 16 := ⟨_, rfl⟩
   obtain ⟨y0, hy0⟩ : ∃ y0 : Nat, y0 = p / 16 := ⟨_, rfl⟩
   have hx16 : x0 < 16 := by omega
   have hy16 : y0 < 16 := by omega
   have HX0 := mk (show (p : Int) % 16 = (x0 : Int) by omega)
   have HY0 := mk (show (p : Int) / 16 = (y0 : Int) by omega)
   have HPX := mk hx0
   have HPY := mk hy0
   clear hx0 hy0
   go_wp2_with (first
    | ((with_reducible refine gate_dst (N := 35) rfl ?_); refine Kd.event_run (v := .slice (some ⟨g6, 0, none⟩) m c6) (w1 := wo) rfl ?hr ?_; (case hr => (have hc_ := HCUT.out wo; rw [Int.toNat_natCast] at hc_; simp [execOp, Act.eval, Instr.sliceAt, Result.andThen, hc_]))))
   rw [HX0.out, HY0.out]
   have HM1 := mk (show Mid g s out st' p (nbListS x0 y0) from
    mid_pop HM.out.1 (p := p) (by simp) (fun q hq => by rcases List.mem_append.1 hq with h | h; exact .inr h; exact .inl (List.mem_singleton.1 h)) (fun q hq => List.mem_append_left _ hq) (fun r hr ha => nbS_mem x0 y0 p r HPX.out HPY.out hp256 hr ha))
   have HL1 := mk (show st'.length + unseen out ≤ 256 ∧ 2 * unseen out + st'.length < 2 * unseen out + (m + 1) from by
    have h := HM.out.2
    have h2 := HML.out
    rw [List.length_append, List.length_singleton] at h
    omega)
   obtain ⟨U, hU⟩ : ∃ U, U = 2 * unseen out + (m + 1) := ⟨_, rfl⟩
   rw [← hU] at HL1
   have HUE := mk hU
   clear hU hcell' hmp HCUT
   go_loopw [6, 11] (fun v6 v11 W => ∃ (out' : Nat → Bool) (st2 : List Nat) (d : Nat), v11 = .int .i64 d ∧ d ≤ 4 ∧ Aside0 (Kd.R (Kd.int .i64) 3 W w.heap.size (fun _ => True) v6 (st2.map fun (n : Nat) => (n : Int)) ∧ Kd.bool.R 4 W w.heap.size (fun _ => True) (.slice (some ⟨B, 0, none⟩) 256 cap) (tab out') ∧ Below w.heap.size w W) ∧
    Aside0 (Mid g s out' st2 p ((nbListS x0 y0).drop d) ∧ st2.length + unseen out' ≤ 256 ∧ 2 * unseen out' + st2.length < U)) (fun _ v11 _ => 4 - (intOf v11).toNat)
   case atStart => exact ⟨out, st', 0, rfl, by omega, ⟨HT6.out, HW.out.2.1, HW.out.2.2⟩, ⟨HM1.out, HL1.out.1, HL1.out.2⟩⟩
   case round =>
    obtain ⟨out', st2, d, rfl, hd, HV, HT⟩ := hrel
    obtain ⟨wi, rfl⟩ : ∃ wi : World, wi = wr := ⟨_, rfl⟩
    by_cases h4 : d < 4
    ·have hdd : decide ((d : Int) < 4) = true := by simp; omega
     have HDR := mk (nbListS_drop x0 y0 d h4)
     obtain rfl | rfl | rfl | rfl : d = 0 ∨ d = 1 ∨ d = 2 ∨ d = 3 := by omega
     all_goals clear h4 hd
     ·have HM2 := mk (show Mid g s out' st2 p ((((x0 : Int) + 1), (y0 : Int)) :: (nbListS x0 y0).drop (0 + 1)) from by have h := HT.out.1; rw [HDR.out] at h; exact h)
      cases hb : (decide (0 ≤ ((x0 : Int) + 1)) && decide (((x0 : Int) + 1) ≤ 15)) with
      | false =>
       have HI1 := mk (fun W => spec_inRange.calls (((x0 : Int) + 1)) 0 15 _ W (inRange_eq' _ _ _))
       rw [hb] at HI1
       have HSK := mk (mid_skip HM2.out (.inl (hasP_no g (((x0 : Int) + 1)) ((y0 : Int)) (by simp at hb; omega))))
       clear hb
       go_wp2_with (first
        | (go_at_call 110; (with_reducible refine (HI1.out _).mono ?_); rintro e W1 ⟨rfl, hd1⟩; have HD1 := mk hd1.below; clear hd1))
       go_roundw
       case rel => exact ⟨out', st2, 0 + 1, by go_num, by omega, ⟨(Kd.R_below (Kd.R_alloc (Kd.R_alloc HV.out.1 _) _) HD1.out), (Kd.R_below (Kd.R_alloc (Kd.R_alloc HV.out.2.1 _) _) HD1.out), (below_then (below_alloc (below_alloc HV.out.2.2 _) _) (below_alloc (below_alloc HV.out.2.2 _) _).size HD1.out)⟩, ⟨HSK.out, HT.out.2.1, HT.out.2.2⟩⟩
       case measure => simp [intOf]
      | true =>
       have HI1 := mk (fun W => spec_inRange.calls (((x0 : Int) + 1)) 0 15 _ W (inRange_eq' _ _ _))
       rw [hb] at HI1
       cases hb2 : (decide (0 ≤ (y0 : Int)) && decide ((y0 : Int) ≤ 15)) with
       | false =>
        exfalso
        simp at hb2
        omega
       | true =>
        have HI2 := mk (fun W => spec_inRange.calls ((y0 : Int)) 0 15 _ W (inRange_eq' _ _ _))
        rw [hb2] at HI2
        have hbc : 0 ≤ ((x0 : Int) + 1) ∧ ((x0 : Int) + 1) < 16 ∧ 0 ≤ (y0 : Int) ∧ (y0 : Int) < 16 := by simp at hb hb2; omega
        have HQ := mk (show ((y0 : Int)).toNat * 16 + (((x0 : Int) + 1)).toNat = (y0 * 16 + (x0 + 1)) by omega)
        have hq256 : (y0 * 16 + (x0 + 1)) < 256 := by omega
        have HBO := mk hbc
        clear hb hb2
        clear hbc
        cases hg : g (y0 * 16 + (x0 + 1)) with
        | false =>
         have HSK := mk (mid_skip HM2.out (.inl (by rw [Bool.eq_false_iff]; intro h; have := ((hasP_iff g _ _).1 h).2.2.2.2; rw [HQ.out, hg] at this; cases this)))
         go_wp2_with (first
          | (go_at_call 110; (with_reducible refine (HI1.out _).mono ?_); rintro e W1 ⟨rfl, hd1⟩; have HD1 := mk hd1.below; clear hd1)
          | (go_at_call 110; (with_reducible refine (HI2.out _).mono ?_); rintro e W2 ⟨rfl, hd2⟩; have HD2 := mk hd2.below; clear hd2; have hcg := HRC.out W2 (below_then (below_then (below_alloc (below_alloc HV.out.2.2 _) _) (below_alloc (below_alloc HV.out.2.2 _) _).size HD1.out) (below_then (below_alloc (below_alloc HV.out.2.2 _) _) (below_alloc (below_alloc HV.out.2.2 _) _).size HD1.out).size HD2.out) ((((y0 * 16 + (x0 + 1)) : Nat) : Int)) (by omega) (by omega); rw [Int.toNat_natCast, rdT_nat g _ hq256, hg] at hcg))
         go_roundw
         case rel => exact ⟨out', st2, 0 + 1, by go_num, by omega, ⟨(Kd.R_below (Kd.R_below (Kd.R_alloc (Kd.R_alloc HV.out.1 _) _) HD1.out) HD2.out), (Kd.R_below (Kd.R_below (Kd.R_alloc (Kd.R_alloc HV.out.2.1 _) _) HD1.out) HD2.out), (below_then (below_then (below_alloc (below_alloc HV.out.2.2 _) _) (below_alloc (below_alloc HV.out.2.2 _) _).size HD1.out) (below_then (below_alloc (below_alloc HV.out.2.2 _) _) (below_alloc (below_alloc HV.out.2.2 _) _).size HD1.out).size HD2.out)⟩, ⟨HSK.out, HT.out.2.1, HT.out.2.2⟩⟩
         case measure => simp [intOf]
        | true =>
         cases ho : out' (y0 * 16 + (x0 + 1)) with
         | true =>
          have HSK := mk (mid_skip HM2.out (.inr (by rw [HQ.out]; exact ho)))
          go_wp2_with (first
           | (go_at_call 110; (with_reducible refine (HI1.out _).mono ?_); rintro e W1 ⟨rfl, hd1⟩; have HD1 := mk hd1.below; clear hd1)
           | (go_at_call 110; (with_reducible refine (HI2.out _).mono ?_); rintro e W2 ⟨rfl, hd2⟩; have HD2 := mk hd2.below; clear hd2; have hcg := HRC.out W2 (below_then (below_then (below_alloc (below_alloc HV.out.2.2 _) _) (below_alloc (below_alloc HV.out.2.2 _) _).size HD1.out) (below_then (below_alloc (below_alloc HV.out.2.2 _) _) (below_alloc (below_alloc HV.out.2.2 _) _).size HD1.out).size HD2.out) ((((y0 * 16 + (x0 + 1)) : Nat) : Int)) (by omega) (by omega); rw [Int.toNat_natCast, rdT_nat g _ hq256, hg] at hcg; have hco := (tabR_cell (Kd.R_below (Kd.R_below (Kd.R_alloc (Kd.R_alloc HV.out.2.1 _) _) HD1.out) HD2.out) (y0 * 16 + (x0 + 1)) hq256).1; rw [ho] at hco; have hcf := (tabR_cell (Kd.R_below (Kd.R_below (Kd.R_alloc (Kd.R_alloc HV.out.2.1 _) _) HD1.out) HD2.out) (y0 * 16 + (x0 + 1)) hq256).2))
          go_roundw
          case rel => exact ⟨out', st2, 0 + 1, by go_num, by omega, ⟨(Kd.R_below (Kd.R_below (Kd.R_alloc (Kd.R_alloc HV.out.1 _) _) HD1.out) HD2.out), (Kd.R_below (Kd.R_below (Kd.R_alloc (Kd.R_alloc HV.out.2.1 _) _) HD1.out) HD2.out), (below_then (below_then (below_alloc (below_alloc HV.out.2.2 _) _) (below_alloc (below_alloc HV.out.2.2 _) _).size HD1.out) (below_then (below_alloc (below_alloc HV.out.2.2 _) _) (below_alloc (below_alloc HV.out.2.2 _) _).size HD1.out).size HD2.out)⟩, ⟨HSK.out, HT.out.2.1, HT.out.2.2⟩⟩
          case measure => simp [intOf]
         | false =>
          have HPU := mk (mid_push (todo' := st2 ++ [(y0 * 16 + (x0 + 1))]) HM2.out ((hasP_iff g _ _).2 ⟨HBO.out.1, HBO.out.2.1, HBO.out.2.2.1, HBO.out.2.2.2, by rw [HQ.out]; exact hg⟩) (nb_adj p hp256 _ _ HBO.out.1 HBO.out.2.1 HBO.out.2.2.1 HBO.out.2.2.2 (by have h1 := HPX.out; have h2 := HPY.out; omega)) (fun q hq => by rw [HQ.out]; rcases List.mem_append.1 hq with h | h; exact .inr h; exact .inl (List.mem_singleton.1 h)) (fun q hq => List.mem_append_left _ hq) (by rw [HQ.out]; simp))
          rw [HQ.out] at HPU
          have HUN := mk (unseen_set out' (y0 * 16 + (x0 + 1)) hq256 ho)
          have HXI := mk (show ((y0 : Int) * 16 + ((x0 : Int) + 1)) = (((y0 * 16 + (x0 + 1)) : Nat) : Int) by omega)
          go_wp2_with (first
           | (go_at_call 110; (with_reducible refine (HI1.out _).mono ?_); rintro e W1 ⟨rfl, hd1⟩; have HD1 := mk hd1.below; clear hd1)
           | (go_at_call 110; (with_reducible refine (HI2.out _).mono ?_); rintro e W2 ⟨rfl, hd2⟩; have HD2 := mk hd2.below; clear hd2; have hcg := HRC.out W2 (below_then (below_then (below_alloc (below_alloc HV.out.2.2 _) _) (below_alloc (below_alloc HV.out.2.2 _) _).size HD1.out) (below_then (below_alloc (below_alloc HV.out.2.2 _) _) (below_alloc (below_alloc HV.out.2.2 _) _).size HD1.out).size HD2.out) ((((y0 * 16 + (x0 + 1)) : Nat) : Int)) (by omega) (by omega); rw [Int.toNat_natCast, rdT_nat g _ hq256, hg] at hcg; have hco := (tabR_cell (Kd.R_below (Kd.R_below (Kd.R_alloc (Kd.R_alloc HV.out.2.1 _) _) HD1.out) HD2.out) (y0 * 16 + (x0 + 1)) hq256).1; rw [ho] at hco; have hcf := (tabR_cell (Kd.R_below (Kd.R_below (Kd.R_alloc (Kd.R_alloc HV.out.2.1 _) _) HD1.out) HD2.out) (y0 * 16 + (x0 + 1)) hq256).2; obtain ⟨cc2, hcc2⟩ := Kd.R_typed (Kd.R_below (Kd.R_below (Kd.R_alloc (Kd.R_alloc HV.out.2.1 _) _) HD1.out) HD2.out) B rfl; have HS3 := mk (Kd.R_set (Kd.R_below (Kd.R_below (Kd.R_alloc (Kd.R_alloc HV.out.1 _) _) HD1.out) HD2.out) hcc2 (by decide) (y0 * 16 + (x0 + 1)) (.bool true)); have HO3 := mk (tabR_put (Kd.R_below (Kd.R_below (Kd.R_alloc (Kd.R_alloc HV.out.2.1 _) _) HD1.out) HD2.out) (y0 * 16 + (x0 + 1)) true); have HB3 := mk (below_set (g := B) (j := (y0 * 16 + (x0 + 1))) (v := .bool true) (below_then (below_then (below_alloc (below_alloc HV.out.2.2 _) _) (below_alloc (below_alloc HV.out.2.2 _) _).size HD1.out) (below_then (below_alloc (below_alloc HV.out.2.2 _) _) (below_alloc (below_alloc HV.out.2.2 _) _).size HD1.out).size HD2.out) HBL.out); clear hcc2)
           | ((with_reducible refine gate_builtin (b := .append) (xs := #[.tmp 96, .tmp 102]) rfl ?_); at_builtin; refine Kd.R_append (Kd.int .i64) (w0 := w) w.heap.size rfl (.tmp 96) (.tmp 102) 22 3 (.int .i64 0) 8 rfl Try.underlying22 info3 rfl (by decide) (by omega) u6 (st2.map fun (n : Nat) => (n : Int)) ((y0 : Int) * 16 + ((x0 : Int) + 1)) [.int .i64 ((y0 : Int) * 16 + ((x0 : Int) + 1))] (fun _ => True) (fun _ => False) rfl ?aX ?aP (fun _ hk => hk.elim) (fun _ _ => trivial) HS3.out HB3.out HB3.out.size ?aL ?_; (case aX => first | rfl | (go_simp; done) | (simp; done) | (go_simp; rfl)); (case aP => rfl); (case aL => (have hl_ := HT.out.2.1; rw [List.length_map]; omega)); intro v7 W7 ho7 hb7 hg7 hat7; have HS7 := mk ho7; have HB7 := mk hb7; have HO7 := mk (Kd.R_over HO3.out HS3.out (by decide) hg7); clear ho7 hb7 hg7 hat7))
          go_roundw
          case rel =>
           refine ⟨fun p => if p = (y0 * 16 + (x0 + 1)) then true else out' p, st2 ++ [(y0 * 16 + (x0 + 1))], 0 + 1, by go_num, by omega, ⟨by have h := HS7.out; rw [HXI.out] at h; rw [List.map_append]; exact h, HO7.out, HB7.out⟩, ⟨HPU.out, ?_, ?_⟩⟩
           ·have h1 := HUN.out
            have h2 := HT.out.2.1
            rw [List.length_append, List.length_singleton]
            omega
           ·have h1 := HUN.out
            have h2 := HT.out.2.2
            rw [List.length_append, List.length_singleton]
            omega
          case measure => simp [intOf]
     ·have HM2 := mk (show Mid g s out' st2 p ((((x0 : Int) - 1), (y0 : Int)) :: (nbListS x0 y0).drop (1 + 1)) from by have h := HT.out.1; rw [HDR.out] at h; exact h)
      cases hb : (decide (0 ≤ ((x0 : Int) + -1)) && decide (((x0 : Int) + -1) ≤ 15)) with
      | false =>
       have HI1 := mk (fun W => spec_inRange.calls (((x0 : Int) + -1)) 0 15 _ W (inRange_eq' _ _ _))
       rw [hb] at HI1
       have HSK := mk (mid_skip HM2.out (.inl (hasP_no g (((x0 : Int) - 1)) ((y0 : Int)) (by simp at hb; omega))))
       clear hb
       go_wp2_with (first
        | (go_at_call 110; (with_reducible refine (HI1.out _).mono ?_); rintro e W1 ⟨rfl, hd1⟩; have HD1 := mk hd1.below; clear hd1))
       go_roundw
       case rel => exact ⟨out', st2, 1 + 1, by go_num, by omega, ⟨(Kd.R_below (Kd.R_alloc (Kd.R_alloc HV.out.1 _) _) HD1.out), (Kd.R_below (Kd.R_alloc (Kd.R_alloc HV.out.2.1 _) _) HD1.out), (below_then (below_alloc (below_alloc HV.out.2.2 _) _) (below_alloc (below_alloc HV.out.2.2 _) _).size HD1.out)⟩, ⟨HSK.out, HT.out.2.1, HT.out.2.2⟩⟩
       case measure => simp [intOf]
      | true =>
       have HI1 := mk (fun W => spec_inRange.calls (((x0 : Int) + -1)) 0 15 _ W (inRange_eq' _ _ _))
       rw [hb] at HI1
       cases hb2 : (decide (0 ≤ (y0 : Int)) && decide ((y0 : Int) ≤ 15)) with
       | false =>
        exfalso
        simp at hb2
        omega
       | true =>
        have HI2 := mk (fun W => spec_inRange.calls ((y0 : Int)) 0 15 _ W (inRange_eq' _ _ _))
        rw [hb2] at HI2
        have hbc : 0 ≤ ((x0 : Int) - 1) ∧ ((x0 : Int) - 1) < 16 ∧ 0 ≤ (y0 : Int) ∧ (y0 : Int) < 16 := by simp at hb hb2; omega
        have HQ := mk (show ((y0 : Int)).toNat * 16 + (((x0 : Int) - 1)).toNat = ((y0 : Int) * 16 + ((x0 : Int) + -1)).toNat by omega)
        have hq256 : ((y0 : Int) * 16 + ((x0 : Int) + -1)).toNat < 256 := by omega
        have HBO := mk hbc
        clear hb hb2
        have hx1 : 1 ≤ x0 := by omega
        clear hbc
        cases hg : g ((y0 : Int) * 16 + ((x0 : Int) + -1)).toNat with
        | false =>
         have HSK := mk (mid_skip HM2.out (.inl (by rw [Bool.eq_false_iff]; intro h; have := ((hasP_iff g _ _).1 h).2.2.2.2; rw [HQ.out, hg] at this; cases this)))
         go_wp2_with (first
          | (go_at_call 110; (with_reducible refine (HI1.out _).mono ?_); rintro e W1 ⟨rfl, hd1⟩; have HD1 := mk hd1.below; clear hd1)
          | (go_at_call 110; (with_reducible refine (HI2.out _).mono ?_); rintro e W2 ⟨rfl, hd2⟩; have HD2 := mk hd2.below; clear hd2; have hcg := HRC.out W2 (below_then (below_then (below_alloc (below_alloc HV.out.2.2 _) _) (below_alloc (below_alloc HV.out.2.2 _) _).size HD1.out) (below_then (below_alloc (below_alloc HV.out.2.2 _) _) (below_alloc (below_alloc HV.out.2.2 _) _).size HD1.out).size HD2.out) (((((y0 : Int) * 16 + ((x0 : Int) + -1)).toNat : Nat) : Int)) (by omega) (by omega); rw [Int.toNat_natCast, rdT_nat g _ hq256, hg] at hcg))
         go_roundw
         case rel => exact ⟨out', st2, 1 + 1, by go_num, by omega, ⟨(Kd.R_below (Kd.R_below (Kd.R_alloc (Kd.R_alloc HV.out.1 _) _) HD1.out) HD2.out), (Kd.R_below (Kd.R_below (Kd.R_alloc (Kd.R_alloc HV.out.2.1 _) _) HD1.out) HD2.out), (below_then (below_then (below_alloc (below_alloc HV.out.2.2 _) _) (below_alloc (below_alloc HV.out.2.2 _) _).size HD1.out) (below_then (below_alloc (below_alloc HV.out.2.2 _) _) (below_alloc (below_alloc HV.out.2.2 _) _).size HD1.out).size HD2.out)⟩, ⟨HSK.out, HT.out.2.1, HT.out.2.2⟩⟩
         case measure => simp [intOf]
        | true =>
         cases ho : out' ((y0 : Int) * 16 + ((x0 : Int) + -1)).toNat with
         | true =>
          have HSK := mk (mid_skip HM2.out (.inr (by rw [HQ.out]; exact ho)))
          go_wp2_with (first
           | (go_at_call 110; (with_reducible refine (HI1.out _).mono ?_); rintro e W1 ⟨rfl, hd1⟩; have HD1 := mk hd1.below; clear hd1)
           | (go_at_call 110; (with_reducible refine (HI2.out _).mono ?_); rintro e W2 ⟨rfl, hd2⟩; have HD2 := mk hd2.below; clear hd2; have hcg := HRC.out W2 (below_then (below_then (below_alloc (below_alloc HV.out.2.2 _) _) (below_alloc (below_alloc HV.out.2.2 _) _).size HD1.out) (below_then (below_alloc (below_alloc HV.out.2.2 _) _) (below_alloc (below_alloc HV.out.2.2 _) _).size HD1.out).size HD2.out) (((((y0 : Int) * 16 + ((x0 : Int) + -1)).toNat : Nat) : Int)) (by omega) (by omega); rw [Int.toNat_natCast, rdT_nat g _ hq256, hg] at hcg; have hco := (tabR_cell (Kd.R_below (Kd.R_below (Kd.R_alloc (Kd.R_alloc HV.out.2.1 _) _) HD1.out) HD2.out) ((y0 : Int) * 16 + ((x0 : Int) + -1)).toNat hq256).1; rw [ho] at hco; have hcf := (tabR_cell (Kd.R_below (Kd.R_below (Kd.R_alloc (Kd.R_alloc HV.out.2.1 _) _) HD1.out) HD2.out) ((y0 : Int) * 16 + ((x0 : Int) + -1)).toNat hq256).2))
          go_roundw
          case rel => exact ⟨out', st2, 1 + 1, by go_num, by omega, ⟨(Kd.R_below (Kd.R_below (Kd.R_alloc (Kd.R_alloc HV.out.1 _) _) HD1.out) HD2.out), (Kd.R_below (Kd.R_below (Kd.R_alloc (Kd.R_alloc HV.out.2.1 _) _) HD1.out) HD2.out), (below_then (below_then (below_alloc (below_alloc HV.out.2.2 _) _) (below_alloc (below_alloc HV.out.2.2 _) _).size HD1.out) (below_then (below_alloc (below_alloc HV.out.2.2 _) _) (below_alloc (below_alloc HV.out.2.2 _) _).size HD1.out).size HD2.out)⟩, ⟨HSK.out, HT.out.2.1, HT.out.2.2⟩⟩
          case measure => simp [intOf]
         | false =>
          have HPU := mk (mid_push (todo' := st2 ++ [((y0 : Int) * 16 + ((x0 : Int) + -1)).toNat]) HM2.out ((hasP_iff g _ _).2 ⟨HBO.out.1, HBO.out.2.1, HBO.out.2.2.1, HBO.out.2.2.2, by rw [HQ.out]; exact hg⟩) (nb_adj p hp256 _ _ HBO.out.1 HBO.out.2.1 HBO.out.2.2.1 HBO.out.2.2.2 (by have h1 := HPX.out; have h2 := HPY.out; omega)) (fun q hq => by rw [HQ.out]; rcases List.mem_append.1 hq with h | h; exact .inr h; exact .inl (List.mem_singleton.1 h)) (fun q hq => List.mem_append_left _ hq) (by rw [HQ.out]; simp))
          rw [HQ.out] at HPU
          have HUN := mk (unseen_set out' ((y0 : Int) * 16 + ((x0 : Int) + -1)).toNat hq256 ho)
          have HXI := mk (show ((y0 : Int) * 16 + ((x0 : Int) + -1)) = ((((y0 : Int) * 16 + ((x0 : Int) + -1)).toNat : Nat) : Int) by omega)
          go_wp2_with (first
           | (go_at_call 110; (with_reducible refine (HI1.out _).mono ?_); rintro e W1 ⟨rfl, hd1⟩; have HD1 := mk hd1.below; clear hd1)
           | (go_at_call 110; (with_reducible refine (HI2.out _).mono ?_); rintro e W2 ⟨rfl, hd2⟩; have HD2 := mk hd2.below; clear hd2; have hcg := HRC.out W2 (below_then (below_then (below_alloc (below_alloc HV.out.2.2 _) _) (below_alloc (below_alloc HV.out.2.2 _) _).size HD1.out) (below_then (below_alloc (below_alloc HV.out.2.2 _) _) (below_alloc (below_alloc HV.out.2.2 _) _).size HD1.out).size HD2.out) (((((y0 : Int) * 16 + ((x0 : Int) + -1)).toNat : Nat) : Int)) (by omega) (by omega); rw [Int.toNat_natCast, rdT_nat g _ hq256, hg] at hcg; have hco := (tabR_cell (Kd.R_below (Kd.R_below (Kd.R_alloc (Kd.R_alloc HV.out.2.1 _) _) HD1.out) HD2.out) ((y0 : Int) * 16 + ((x0 : Int) + -1)).toNat hq256).1; rw [ho] at hco; have hcf := (tabR_cell (Kd.R_below (Kd.R_below (Kd.R_alloc (Kd.R_alloc HV.out.2.1 _) _) HD1.out) HD2.out) ((y0 : Int) * 16 + ((x0 : Int) + -1)).toNat hq256).2; obtain ⟨cc2, hcc2⟩ := Kd.R_typed (Kd.R_below (Kd.R_below (Kd.R_alloc (Kd.R_alloc HV.out.2.1 _) _) HD1.out) HD2.out) B rfl; have HS3 := mk (Kd.R_set (Kd.R_below (Kd.R_below (Kd.R_alloc (Kd.R_alloc HV.out.1 _) _) HD1.out) HD2.out) hcc2 (by decide) ((y0 : Int) * 16 + ((x0 : Int) + -1)).toNat (.bool true)); have HO3 := mk (tabR_put (Kd.R_below (Kd.R_below (Kd.R_alloc (Kd.R_alloc HV.out.2.1 _) _) HD1.out) HD2.out) ((y0 : Int) * 16 + ((x0 : Int) + -1)).toNat true); have HB3 := mk (below_set (g := B) (j := ((y0 : Int) * 16 + ((x0 : Int) + -1)).toNat) (v := .bool true) (below_then (below_then (below_alloc (below_alloc HV.out.2.2 _) _) (below_alloc (below_alloc HV.out.2.2 _) _).size HD1.out) (below_then (below_alloc (below_alloc HV.out.2.2 _) _) (below_alloc (below_alloc HV.out.2.2 _) _).size HD1.out).size HD2.out) HBL.out); clear hcc2)
           | ((with_reducible refine gate_builtin (b := .append) (xs := #[.tmp 96, .tmp 102]) rfl ?_); at_builtin; refine Kd.R_append (Kd.int .i64) (w0 := w) w.heap.size rfl (.tmp 96) (.tmp 102) 22 3 (.int .i64 0) 8 rfl Try.underlying22 info3 rfl (by decide) (by omega) u6 (st2.map fun (n : Nat) => (n : Int)) ((y0 : Int) * 16 + ((x0 : Int) + -1)) [.int .i64 ((y0 : Int) * 16 + ((x0 : Int) + -1))] (fun _ => True) (fun _ => False) rfl ?aX ?aP (fun _ hk => hk.elim) (fun _ _ => trivial) HS3.out HB3.out HB3.out.size ?aL ?_; (case aX => first | rfl | (go_simp; done) | (simp; done) | (go_simp; rfl)); (case aP => rfl); (case aL => (have hl_ := HT.out.2.1; rw [List.length_map]; omega)); intro v7 W7 ho7 hb7 hg7 hat7; have HS7 := mk ho7; have HB7 := mk hb7; have HO7 := mk (Kd.R_over HO3.out HS3.out (by decide) hg7); clear ho7 hb7 hg7 hat7))
          go_roundw
          case rel =>
           refine ⟨fun p => if p = ((y0 : Int) * 16 + ((x0 : Int) + -1)).toNat then true else out' p, st2 ++ [((y0 : Int) * 16 + ((x0 : Int) + -1)).toNat], 1 + 1, by go_num, by omega, ⟨by have h := HS7.out; rw [HXI.out] at h; rw [List.map_append]; exact h, HO7.out, HB7.out⟩, ⟨HPU.out, ?_, ?_⟩⟩
           ·have h1 := HUN.out
            have h2 := HT.out.2.1
            rw [List.length_append, List.length_singleton]
            omega
           ·have h1 := HUN.out
            have h2 := HT.out.2.2
            rw [List.length_append, List.length_singleton]
            omega
          case measure => simp [intOf]
     ·have HM2 := mk (show Mid g s out' st2 p (((x0 : Int), ((y0 : Int) + 1)) :: (nbListS x0 y0).drop (2 + 1)) from by have h := HT.out.1; rw [HDR.out] at h; exact h)
      cases hb : (decide (0 ≤ (x0 : Int)) && decide ((x0 : Int) ≤ 15)) with
      | false =>
       exfalso
       simp at hb
       omega
      | true =>
       have HI1 := mk (fun W => spec_inRange.calls ((x0 : Int)) 0 15 _ W (inRange_eq' _ _ _))
       rw [hb] at HI1
       cases hb2 : (decide (0 ≤ ((y0 : Int) + 1)) && decide (((y0 : Int) + 1) ≤ 15)) with
       | false =>
        have HI2 := mk (fun W => spec_inRange.calls (((y0 : Int) + 1)) 0 15 _ W (inRange_eq' _ _ _))
        rw [hb2] at HI2
        have HSK := mk (mid_skip HM2.out (.inl (hasP_no g ((x0 : Int)) (((y0 : Int) + 1)) (by simp at hb2; omega))))
        clear hb hb2
        go_wp2_with (first
         | (go_at_call 110; (with_reducible refine (HI1.out _).mono ?_); rintro e W1 ⟨rfl, hd1⟩; have HD1 := mk hd1.below; clear hd1)
         | (go_at_call 110; (with_reducible refine (HI2.out _).mono ?_); rintro e W2 ⟨rfl, hd2⟩; have HD2 := mk hd2.below; clear hd2))
        go_roundw
        case rel => exact ⟨out', st2, 2 + 1, by go_num, by omega, ⟨(Kd.R_below (Kd.R_below (Kd.R_alloc (Kd.R_alloc HV.out.1 _) _) HD1.out) HD2.out), (Kd.R_below (Kd.R_below (Kd.R_alloc (Kd.R_alloc HV.out.2.1 _) _) HD1.out) HD2.out), (below_then (below_then (below_alloc (below_alloc HV.out.2.2 _) _) (below_alloc (below_alloc HV.out.2.2 _) _).size HD1.out) (below_then (below_alloc (below_alloc HV.out.2.2 _) _) (below_alloc (below_alloc HV.out.2.2 _) _).size HD1.out).size HD2.out)⟩, ⟨HSK.out, HT.out.2.1, HT.out.2.2⟩⟩
        case measure => simp [intOf]
       | true =>
        have HI2 := mk (fun W => spec_inRange.calls (((y0 : Int) + 1)) 0 15 _ W (inRange_eq' _ _ _))
        rw [hb2] at HI2
        have hbc : 0 ≤ (x0 : Int) ∧ (x0 : Int) < 16 ∧ 0 ≤ ((y0 : Int) + 1) ∧ ((y0 : Int) + 1) < 16 := by simp at hb hb2; omega
        have HQ := mk (show (((y0 : Int) + 1)).toNat * 16 + ((x0 : Int)).toNat = ((y0 + 1) * 16 + x0) by omega)
        have hq256 : ((y0 + 1) * 16 + x0) < 256 := by omega
        have HBO := mk hbc
        clear hb hb2
        clear hbc
        cases hg : g ((y0 + 1) * 16 + x0) with
        | false =>
         have HSK := mk (mid_skip HM2.out (.inl (by rw [Bool.eq_false_iff]; intro h; have := ((hasP_iff g _ _).1 h).2.2.2.2; rw [HQ.out, hg] at this; cases this)))
         go_wp2_with (first
          | (go_at_call 110; (with_reducible refine (HI1.out _).mono ?_); rintro e W1 ⟨rfl, hd1⟩; have HD1 := mk hd1.below; clear hd1)
          | (go_at_call 110; (with_reducible refine (HI2.out _).mono ?_); rintro e W2 ⟨rfl, hd2⟩; have HD2 := mk hd2.below; clear hd2; have hcg := HRC.out W2 (below_then (below_then (below_alloc (below_alloc HV.out.2.2 _) _) (below_alloc (below_alloc HV.out.2.2 _) _).size HD1.out) (below_then (below_alloc (below_alloc HV.out.2.2 _) _) (below_alloc (below_alloc HV.out.2.2 _) _).size HD1.out).size HD2.out) (((((y0 + 1) * 16 + x0) : Nat) : Int)) (by omega) (by omega); rw [Int.toNat_natCast, rdT_nat g _ hq256, hg] at hcg))
         go_roundw
         case rel => exact ⟨out', st2, 2 + 1, by go_num, by omega, ⟨(Kd.R_below (Kd.R_below (Kd.R_alloc (Kd.R_alloc HV.out.1 _) _) HD1.out) HD2.out), (Kd.R_below (Kd.R_below (Kd.R_alloc (Kd.R_alloc HV.out.2.1 _) _) HD1.out) HD2.out), (below_then (below_then (below_alloc (below_alloc HV.out.2.2 _) _) (below_alloc (below_alloc HV.out.2.2 _) _).size HD1.out) (below_then (below_alloc (below_alloc HV.out.2.2 _) _) (below_alloc (below_alloc HV.out.2.2 _) _).size HD1.out).size HD2.out)⟩, ⟨HSK.out, HT.out.2.1, HT.out.2.2⟩⟩
         case measure => simp [intOf]
        | true =>
         cases ho : out' ((y0 + 1) * 16 + x0) with
         | true =>
          have HSK := mk (mid_skip HM2.out (.inr (by rw [HQ.out]; exact ho)))
          go_wp2_with (first
           | (go_at_call 110; (with_reducible refine (HI1.out _).mono ?_); rintro e W1 ⟨rfl, hd1⟩; have HD1 := mk hd1.below; clear hd1)
           | (go_at_call 110; (with_reducible refine (HI2.out _).mono ?_); rintro e W2 ⟨rfl, hd2⟩; have HD2 := mk hd2.below; clear hd2; have hcg := HRC.out W2 (below_then (below_then (below_alloc (below_alloc HV.out.2.2 _) _) (below_alloc (below_alloc HV.out.2.2 _) _).size HD1.out) (below_then (below_alloc (below_alloc HV.out.2.2 _) _) (below_alloc (below_alloc HV.out.2.2 _) _).size HD1.out).size HD2.out) (((((y0 + 1) * 16 + x0) : Nat) : Int)) (by omega) (by omega); rw [Int.toNat_natCast, rdT_nat g _ hq256, hg] at hcg; have hco := (tabR_cell (Kd.R_below (Kd.R_below (Kd.R_alloc (Kd.R_alloc HV.out.2.1 _) _) HD1.out) HD2.out) ((y0 + 1) * 16 + x0) hq256).1; rw [ho] at hco; have hcf := (tabR_cell (Kd.R_below (Kd.R_below (Kd.R_alloc (Kd.R_alloc HV.out.2.1 _) _) HD1.out) HD2.out) ((y0 + 1) * 16 + x0) hq256).2))
          go_roundw
          case rel => exact ⟨out', st2, 2 + 1, by go_num, by omega, ⟨(Kd.R_below (Kd.R_below (Kd.R_alloc (Kd.R_alloc HV.out.1 _) _) HD1.out) HD2.out), (Kd.R_below (Kd.R_below (Kd.R_alloc (Kd.R_alloc HV.out.2.1 _) _) HD1.out) HD2.out), (below_then (below_then (below_alloc (below_alloc HV.out.2.2 _) _) (below_alloc (below_alloc HV.out.2.2 _) _).size HD1.out) (below_then (below_alloc (below_alloc HV.out.2.2 _) _) (below_alloc (below_alloc HV.out.2.2 _) _).size HD1.out).size HD2.out)⟩, ⟨HSK.out, HT.out.2.1, HT.out.2.2⟩⟩
          case measure => simp [intOf]
         | false =>
          have HPU := mk (mid_push (todo' := st2 ++ [((y0 + 1) * 16 + x0)]) HM2.out ((hasP_iff g _ _).2 ⟨HBO.out.1, HBO.out.2.1, HBO.out.2.2.1, HBO.out.2.2.2, by rw [HQ.out]; exact hg⟩) (nb_adj p hp256 _ _ HBO.out.1 HBO.out.2.1 HBO.out.2.2.1 HBO.out.2.2.2 (by have h1 := HPX.out; have h2 := HPY.out; omega)) (fun q hq => by rw [HQ.out]; rcases List.mem_append.1 hq with h | h; exact .inr h; exact .inl (List.mem_singleton.1 h)) (fun q hq => List.mem_append_left _ hq) (by rw [HQ.out]; simp))
          rw [HQ.out] at HPU
          have HUN := mk (unseen_set out' ((y0 + 1) * 16 + x0) hq256 ho)
          have HXI := mk (show (((y0 : Int) + 1) * 16 + (x0 : Int)) = ((((y0 + 1) * 16 + x0) : Nat) : Int) by omega)
          go_wp2_with (first
           | (go_at_call 110; (with_reducible refine (HI1.out _).mono ?_); rintro e W1 ⟨rfl, hd1⟩; have HD1 := mk hd1.below; clear hd1)
           | (go_at_call 110; (with_reducible refine (HI2.out _).mono ?_); rintro e W2 ⟨rfl, hd2⟩; have HD2 := mk hd2.below; clear hd2; have hcg := HRC.out W2 (below_then (below_then (below_alloc (below_alloc HV.out.2.2 _) _) (below_alloc (below_alloc HV.out.2.2 _) _).size HD1.out) (below_then (below_alloc (below_alloc HV.out.2.2 _) _) (below_alloc (below_alloc HV.out.2.2 _) _).size HD1.out).size HD2.out) (((((y0 + 1) * 16 + x0) : Nat) : Int)) (by omega) (by omega); rw [Int.toNat_natCast, rdT_nat g _ hq256, hg] at hcg; have hco := (tabR_cell (Kd.R_below (Kd.R_below (Kd.R_alloc (Kd.R_alloc HV.out.2.1 _) _) HD1.out) HD2.out) ((y0 + 1) * 16 + x0) hq256).1; rw [ho] at hco; have hcf := (tabR_cell (Kd.R_below (Kd.R_below (Kd.R_alloc (Kd.R_alloc HV.out.2.1 _) _) HD1.out) HD2.out) ((y0 + 1) * 16 + x0) hq256).2; obtain ⟨cc2, hcc2⟩ := Kd.R_typed (Kd.R_below (Kd.R_below (Kd.R_alloc (Kd.R_alloc HV.out.2.1 _) _) HD1.out) HD2.out) B rfl; have HS3 := mk (Kd.R_set (Kd.R_below (Kd.R_below (Kd.R_alloc (Kd.R_alloc HV.out.1 _) _) HD1.out) HD2.out) hcc2 (by decide) ((y0 + 1) * 16 + x0) (.bool true)); have HO3 := mk (tabR_put (Kd.R_below (Kd.R_below (Kd.R_alloc (Kd.R_alloc HV.out.2.1 _) _) HD1.out) HD2.out) ((y0 + 1) * 16 + x0) true); have HB3 := mk (below_set (g := B) (j := ((y0 + 1) * 16 + x0)) (v := .bool true) (below_then (below_then (below_alloc (below_alloc HV.out.2.2 _) _) (below_alloc (below_alloc HV.out.2.2 _) _).size HD1.out) (below_then (below_alloc (below_alloc HV.out.2.2 _) _) (below_alloc (below_alloc HV.out.2.2 _) _).size HD1.out).size HD2.out) HBL.out); clear hcc2)
           | ((with_reducible refine gate_builtin (b := .append) (xs := #[.tmp 96, .tmp 102]) rfl ?_); at_builtin; refine Kd.R_append (Kd.int .i64) (w0 := w) w.heap.size rfl (.tmp 96) (.tmp 102) 22 3 (.int .i64 0) 8 rfl Try.underlying22 info3 rfl (by decide) (by omega) u6 (st2.map fun (n : Nat) => (n : Int)) (((y0 : Int) + 1) * 16 + (x0 : Int)) [.int .i64 (((y0 : Int) + 1) * 16 + (x0 : Int))] (fun _ => True) (fun _ => False) rfl ?aX ?aP (fun _ hk => hk.elim) (fun _ _ => trivial) HS3.out HB3.out HB3.out.size ?aL ?_; (case aX => first | rfl | (go_simp; done) | (simp; done) | (go_simp; rfl)); (case aP => rfl); (case aL => (have hl_ := HT.out.2.1; rw [List.length_map]; omega)); intro v7 W7 ho7 hb7 hg7 hat7; have HS7 := mk ho7; have HB7 := mk hb7; have HO7 := mk (Kd.R_over HO3.out HS3.out (by decide) hg7); clear ho7 hb7 hg7 hat7))
          go_roundw
          case rel =>
           refine ⟨fun p => if p = ((y0 + 1) * 16 + x0) then true else out' p, st2 ++ [((y0 + 1) * 16 + x0)], 2 + 1, by go_num, by omega, ⟨by have h := HS7.out; rw [HXI.out] at h; rw [List.map_append]; exact h, HO7.out, HB7.out⟩, ⟨HPU.out, ?_, ?_⟩⟩
           ·have h1 := HUN.out
            have h2 := HT.out.2.1
            rw [List.length_append, List.length_singleton]
            omega
           ·have h1 := HUN.out
            have h2 := HT.out.2.2
            rw [List.length_append, List.length_singleton]
            omega
          case measure => simp [intOf]
     ·have HM2 := mk (show Mid g s out' st2 p (((x0 : Int), ((y0 : Int) - 1)) :: (nbListS x0 y0).drop (3 + 1)) from by have h := HT.out.1; rw [HDR.out] at h; exact h)
      cases hb : (decide (0 ≤ (x0 : Int)) && decide ((x0 : Int) ≤ 15)) with
      | false =>
       exfalso
       simp at hb
       omega
      | true =>
       have HI1 := mk (fun W => spec_inRange.calls ((x0 : Int)) 0 15 _ W (inRange_eq' _ _ _))
       rw [hb] at HI1
       cases hb2 : (decide (0 ≤ ((y0 : Int) + -1)) && decide (((y0 : Int) + -1) ≤ 15)) with
       | false =>
        have HI2 := mk (fun W => spec_inRange.calls (((y0 : Int) + -1)) 0 15 _ W (inRange_eq' _ _ _))
        rw [hb2] at HI2
        have HSK := mk (mid_skip HM2.out (.inl (hasP_no g ((x0 : Int)) (((y0 : Int) - 1)) (by simp at hb2; omega))))
        clear hb hb2
        go_wp2_with (first
         | (go_at_call 110; (with_reducible refine (HI1.out _).mono ?_); rintro e W1 ⟨rfl, hd1⟩; have HD1 := mk hd1.below; clear hd1)
         | (go_at_call 110; (with_reducible refine (HI2.out _).mono ?_); rintro e W2 ⟨rfl, hd2⟩; have HD2 := mk hd2.below; clear hd2))
        go_roundw
        case rel => exact ⟨out', st2, 3 + 1, by go_num, by omega, ⟨(Kd.R_below (Kd.R_below (Kd.R_alloc (Kd.R_alloc HV.out.1 _) _) HD1.out) HD2.out), (Kd.R_below (Kd.R_below (Kd.R_alloc (Kd.R_alloc HV.out.2.1 _) _) HD1.out) HD2.out), (below_then (below_then (below_alloc (below_alloc HV.out.2.2 _) _) (below_alloc (below_alloc HV.out.2.2 _) _).size HD1.out) (below_then (below_alloc (below_alloc HV.out.2.2 _) _) (below_alloc (below_alloc HV.out.2.2 _) _).size HD1.out).size HD2.out)⟩, ⟨HSK.out, HT.out.2.1, HT.out.2.2⟩⟩
        case measure => simp [intOf]
       | true =>
        have HI2 := mk (fun W => spec_inRange.calls (((y0 : Int) + -1)) 0 15 _ W (inRange_eq' _ _ _))
        rw [hb2] at HI2
        have hbc : 0 ≤ (x0 : Int) ∧ (x0 : Int) < 16 ∧ 0 ≤ ((y0 : Int) - 1) ∧ ((y0 : Int) - 1) < 16 := by simp at hb hb2; omega
        have HQ := mk (show (((y0 : Int) - 1)).toNat * 16 + ((x0 : Int)).toNat = (((y0 : Int) + -1) * 16 + (x0 : Int)).toNat by omega)
        have hq256 : (((y0 : Int) + -1) * 16 + (x0 : Int)).toNat < 256 := by omega
        have HBO := mk hbc
        clear hb hb2
        have hy1 : 1 ≤ y0 := by omega
        clear hbc
        cases hg : g (((y0 : Int) + -1) * 16 + (x0 : Int)).toNat with
        | false =>
         have HSK := mk (mid_skip HM2.out (.inl (by rw [Bool.eq_false_iff]; intro h; have := ((hasP_iff g _ _).1 h).2.2.2.2; rw [HQ.out, hg] at this; cases this)))
         go_wp2_with (first
          | (go_at_call 110; (with_reducible refine (HI1.out _).mono ?_); rintro e W1 ⟨rfl, hd1⟩; have HD1 := mk hd1.below; clear hd1)
          | (go_at_call 110; (with_reducible refine (HI2.out _).mono ?_); rintro e W2 ⟨rfl, hd2⟩; have HD2 := mk hd2.below; clear hd2; have hcg := HRC.out W2 (below_then (below_then (below_alloc (below_alloc HV.out.2.2 _) _) (below_alloc (below_alloc HV.out.2.2 _) _).size HD1.out) (below_then (below_alloc (below_alloc HV.out.2.2 _) _) (below_alloc (below_alloc HV.out.2.2 _) _).size HD1.out).size HD2.out) ((((((y0 : Int) + -1) * 16 + (x0 : Int)).toNat : Nat) : Int)) (by omega) (by omega); rw [Int.toNat_natCast, rdT_nat g _ hq256, hg] at hcg))
         go_roundw
         case rel => exact ⟨out', st2, 3 + 1, by go_num, by omega, ⟨(Kd.R_below (Kd.R_below (Kd.R_alloc (Kd.R_alloc HV.out.1 _) _) HD1.out) HD2.out), (Kd.R_below (Kd.R_below (Kd.R_alloc (Kd.R_alloc HV.out.2.1 _) _) HD1.out) HD2.out), (below_then (below_then (below_alloc (below_alloc HV.out.2.2 _) _) (below_alloc (below_alloc HV.out.2.2 _) _).size HD1.out) (below_then (below_alloc (below_alloc HV.out.2.2 _) _) (below_alloc (below_alloc HV.out.2.2 _) _).size HD1.out).size HD2.out)⟩, ⟨HSK.out, HT.out.2.1, HT.out.2.2⟩⟩
         case measure => simp [intOf]
        | true =>
         cases ho : out' (((y0 : Int) + -1) * 16 + (x0 : Int)).toNat with
         | true =>
          have HSK := mk (mid_skip HM2.out (.inr (by rw [HQ.out]; exact ho)))
          go_wp2_with (first
           | (go_at_call 110; (with_reducible refine (HI1.out _).mono ?_); rintro e W1 ⟨rfl, hd1⟩; have HD1 := mk hd1.below; clear hd1)
           | (go_at_call 110; (with_reducible refine (HI2.out _).mono ?_); rintro e W2 ⟨rfl, hd2⟩; have HD2 := mk hd2.below; clear hd2; have hcg := HRC.out W2 (below_then (below_then (below_alloc (below_alloc HV.out.2.2 _) _) (below_alloc (below_alloc HV.out.2.2 _) _).size HD1.out) (below_then (below_alloc (below_alloc HV.out.2.2 _) _) (below_alloc (below_alloc HV.out.2.2 _) _).size HD1.out).size HD2.out) ((((((y0 : Int) + -1) * 16 + (x0 : Int)).toNat : Nat) : Int)) (by omega) (by omega); rw [Int.toNat_natCast, rdT_nat g _ hq256, hg] at hcg; have hco := (tabR_cell (Kd.R_below (Kd.R_below (Kd.R_alloc (Kd.R_alloc HV.out.2.1 _) _) HD1.out) HD2.out) (((y0 : Int) + -1) * 16 + (x0 : Int)).toNat hq256).1; rw [ho] at hco; have hcf := (tabR_cell (Kd.R_below (Kd.R_below (Kd.R_alloc (Kd.R_alloc HV.out.2.1 _) _) HD1.out) HD2.out) (((y0 : Int) + -1) * 16 + (x0 : Int)).toNat hq256).2))
          go_roundw
          case rel => exact ⟨out', st2, 3 + 1, by go_num, by omega, ⟨(Kd.R_below (Kd.R_below (Kd.R_alloc (Kd.R_alloc HV.out.1 _) _) HD1.out) HD2.out), (Kd.R_below (Kd.R_below (Kd.R_alloc (Kd.R_alloc HV.out.2.1 _) _) HD1.out) HD2.out), (below_then (below_then (below_alloc (below_alloc HV.out.2.2 _) _) (below_alloc (below_alloc HV.out.2.2 _) _).size HD1.out) (below_then (below_alloc (below_alloc HV.out.2.2 _) _) (below_alloc (below_alloc HV.out.2.2 _) _).size HD1.out).size HD2.out)⟩, ⟨HSK.out, HT.out.2.1, HT.out.2.2⟩⟩
          case measure => simp [intOf]
         | false =>
          have HPU := mk (mid_push (todo' := st2 ++ [(((y0 : Int) + -1) * 16 + (x0 : Int)).toNat]) HM2.out ((hasP_iff g _ _).2 ⟨HBO.out.1, HBO.out.2.1, HBO.out.2.2.1, HBO.out.2.2.2, by rw [HQ.out]; exact hg⟩) (nb_adj p hp256 _ _ HBO.out.1 HBO.out.2.1 HBO.out.2.2.1 HBO.out.2.2.2 (by have h1 := HPX.out; have h2 := HPY.out; omega)) (fun q hq => by rw [HQ.out]; rcases List.mem_append.1 hq with h | h; exact .inr h; exact .inl (List.mem_singleton.1 h)) (fun q hq => List.mem_append_left _ hq) (by rw [HQ.out]; simp))
          rw [HQ.out] at HPU
          have HUN := mk (unseen_set out' (((y0 : Int) + -1) * 16 + (x0 : Int)).toNat hq256 ho)
          have HXI := mk (show (((y0 : Int) + -1) * 16 + (x0 : Int)) = (((((y0 : Int) + -1) * 16 + (x0 : Int)).toNat : Nat) : Int) by omega)
          go_wp2_with (first
           | (go_at_call 110; (with_reducible refine (HI1.out _).mono ?_); rintro e W1 ⟨rfl, hd1⟩; have HD1 := mk hd1.below; clear hd1)
           | (go_at_call 110; (with_reducible refine (HI2.out _).mono ?_); rintro e W2 ⟨rfl, hd2⟩; have HD2 := mk hd2.below; clear hd2; have hcg := HRC.out W2 (below_then (below_then (below_alloc (below_alloc HV.out.2.2 _) _) (below_alloc (below_alloc HV.out.2.2 _) _).size HD1.out) (below_then (below_alloc (below_alloc HV.out.2.2 _) _) (below_alloc (below_alloc HV.out.2.2 _) _).size HD1.out).size HD2.out) ((((((y0 : Int) + -1) * 16 + (x0 : Int)).toNat : Nat) : Int)) (by omega) (by omega); rw [Int.toNat_natCast, rdT_nat g _ hq256, hg] at hcg; have hco := (tabR_cell (Kd.R_below (Kd.R_below (Kd.R_alloc (Kd.R_alloc HV.out.2.1 _) _) HD1.out) HD2.out) (((y0 : Int) + -1) * 16 + (x0 : Int)).toNat hq256).1; rw [ho] at hco; have hcf := (tabR_cell (Kd.R_below (Kd.R_below (Kd.R_alloc (Kd.R_alloc HV.out.2.1 _) _) HD1.out) HD2.out) (((y0 : Int) + -1) * 16 + (x0 : Int)).toNat hq256).2; obtain ⟨cc2, hcc2⟩ := Kd.R_typed (Kd.R_below (Kd.R_below (Kd.R_alloc (Kd.R_alloc HV.out.2.1 _) _) HD1.out) HD2.out) B rfl; have HS3 := mk (Kd.R_set (Kd.R_below (Kd.R_below (Kd.R_alloc (Kd.R_alloc HV.out.1 _) _) HD1.out) HD2.out) hcc2 (by decide) (((y0 : Int) + -1) * 16 + (x0 : Int)).toNat (.bool true)); have HO3 := mk (tabR_put (Kd.R_below (Kd.R_below (Kd.R_alloc (Kd.R_alloc HV.out.2.1 _) _) HD1.out) HD2.out) (((y0 : Int) + -1) * 16 + (x0 : Int)).toNat true); have HB3 := mk (below_set (g := B) (j := (((y0 : Int) + -1) * 16 + (x0 : Int)).toNat) (v := .bool true) (below_then (below_then (below_alloc (below_alloc HV.out.2.2 _) _) (below_alloc (below_alloc HV.out.2.2 _) _).size HD1.out) (below_then (below_alloc (below_alloc HV.out.2.2 _) _) (below_alloc (below_alloc HV.out.2.2 _) _).size HD1.out).size HD2.out) HBL.out); clear hcc2)
           | ((with_reducible refine gate_builtin (b := .append) (xs := #[.tmp 96, .tmp 102]) rfl ?_); at_builtin; refine Kd.R_append (Kd.int .i64) (w0 := w) w.heap.size rfl (.tmp 96) (.tmp 102) 22 3 (.int .i64 0) 8 rfl Try.underlying22 info3 rfl (by decide) (by omega) u6 (st2.map fun (n : Nat) => (n : Int)) (((y0 : Int) + -1) * 16 + (x0 : Int)) [.int .i64 (((y0 : Int) + -1) * 16 + (x0 : Int))] (fun _ => True) (fun _ => False) rfl ?aX ?aP (fun _ hk => hk.elim) (fun _ _ => trivial) HS3.out HB3.out HB3.out.size ?aL ?_; (case aX => first | rfl | (go_simp; done) | (simp; done) | (go_simp; rfl)); (case aP => rfl); (case aL => (have hl_ := HT.out.2.1; rw [List.length_map]; omega)); intro v7 W7 ho7 hb7 hg7 hat7; have HS7 := mk ho7; have HB7 := mk hb7; have HO7 := mk (Kd.R_over HO3.out HS3.out (by decide) hg7); clear ho7 hb7 hg7 hat7))
          go_roundw
          case rel =>
           refine ⟨fun p => if p = (((y0 : Int) + -1) * 16 + (x0 : Int)).toNat then true else out' p, st2 ++ [(((y0 : Int) + -1) * 16 + (x0 : Int)).toNat], 3 + 1, by go_num, by omega, ⟨by have h := HS7.out; rw [HXI.out] at h; rw [List.map_append]; exact h, HO7.out, HB7.out⟩, ⟨HPU.out, ?_, ?_⟩⟩
           ·have h1 := HUN.out
            have h2 := HT.out.2.1
            rw [List.length_append, List.length_singleton]
            omega
           ·have h1 := HUN.out
            have h2 := HT.out.2.2
            rw [List.length_append, List.length_singleton]
            omega
          case measure => simp [intOf]
    ·have hd4 : d = 4 := by omega
     subst hd4
     go_wp2
     go_roundw
     case rel => exact ⟨out', st2, p, HV, ⟨HT.out.1, HT.out.2.1⟩⟩
     case measure =>
      obtain ⟨A2, c2, e2, _⟩ := Kd.Q_slice (Kd.Q_of_R HV.out.1)
      have h1 := unseen_outT HV.out.2.1
      have h2 := HMS.out
      have h3 := HT.out.2.2
      have h5 := HUE.out
      subst e2
      show 2 * unseen (outT wi B) + (st2.map fun (n : Nat) => (n : Int)).length < 2 * unseen (outT wo B) + (m + 1)
      rw [h1, h2, List.length_map]
      omega
theorem spec_spreadFrom.calls (A0 : Option Addr) (c0 : Nat) (l0 : List Bool) (a1 : Int) (r : List Bool) (w : World) (hr0 : Kd.bool.C w A0 l0.length l0) (hc0 : l0.length ≤ c0) (h : spec_spreadFrom.f l0 a1 = some r) :
  Calls Try.prog 159 #[.slice A0 l0.length c0, .int .i64 a1] w fun e w' => ∃ v0_ : Value, e = .returned (v0_) ∧ Kd.bool.R 4 w' w.heap.size (fun _ => True) v0_ r ∧ Below w.heap.size w w' := by
 unfold spec_spreadFrom.f at h
 by_cases hl : l0.length = 256 ∧ 0 ≤ a1 ∧ a1 < 256
 ·rw [if_pos hl] at h
  obtain rfl := Option.some.inj h
  obtain ⟨hl, h0, h1⟩ := hl
  obtain ⟨s, rfl⟩ := Int.eq_ofNat_of_zero_le h0
  rw [hl] at hr0 hc0 ⊢
  rw [tab_of l0 hl] at hr0
  exact spread_calls A0 c0 _ s (by omega) w hr0 hc0
 ·rw [if_neg hl] at h; cases h
end Go.Proofs.Ytnofkbbcbpjhfaa.Q

namespace Go.Proofs.Ytnofkbbcbpjhfaa.Q
open Go.RowKit Go.Proofs.YtnofkbbcbpjhfaaW.PrintWords Go.Proofs.YtnofkbbcbpjhfaaW.PrintLast Go.Proofs.YtnofkbbcbpjhfaaW.PrintMore
attribute [local go_sem] max2_int min2_int max_two min_two max_three min_three max_four min_four
set_option linter.unusedVariables false
set_option linter.unusedSimpArgs false
open Go.Proofs.YtnofkbbcbpjhfaaW.PrintWords.Aside0 (mk)
set_option maxHeartbeats 12000000
set_option maxRecDepth 100000
mutual
noncomputable def spec_parts.l0 : Nat → List (List S118) → List Bool → Int → Option ((List (List S118)))
 | 0, _, _, _ => none
 | k + 1, x3, x4, x5 => if x5 < (x4.length : Int) then (if 0 ≤ x5 then (if rdOf false x4 x5 = true then ((spec_spreadFrom.f x4 x5).bind fun tz0 => ((spec_runsOf.f k tz0).bind fun tz1 => (if x3.length < 5864062014805 then (spec_parts.l1 k (x3 ++ [tz1]) x4 x5 tz0 0) else none))) else (spec_parts.l0 k x3 x4 (wrap64 (x5 + 1)))) else none) else (some x3)
noncomputable def spec_parts.l1 : Nat → List (List S118) → List Bool → Int → List Bool → Int → Option ((List (List S118)))
 | 0, _, _, _, _, _ => none
 | k + 1, x3, x4, x5, x6, x7 => if x7 < (x4.length : Int) then (if 0 ≤ x7 then (if rdOf false x4 x7 = true then (if x7 < (x6.length : Int) then (spec_parts.l1 k x3 (x4.set (x7 : Int).toNat (!(rdOf false x6 x7))) x5 x6 (wrap64 (x7 + 1))) else none) else (spec_parts.l1 k x3 (x4.set (x7 : Int).toNat false) x5 x6 (wrap64 (x7 + 1)))) else none) else (spec_parts.l0 k x3 x4 (wrap64 (x5 + 1)))
end
noncomputable def spec_parts.f (k : Nat) (l0 : List S118) : Option ((List (List S118))) := (spec_gridOf.f k l0).bind fun tz2 => (spec_parts.l0 k (([] : List (List S118))) tz2 0)
theorem spec_parts.calls (k : Nat) (A0 : Option Addr) (c0 : Nat) (l0 : List S118) (r : List (List S118)) (w : World) (hr0 : Kd.C k118 w A0 l0.length l0) (hc0 : l0.length ≤ c0) (h : spec_parts.f k l0 = some r) :
  Calls Try.prog 150 #[.slice A0 l0.length c0] w fun e w' => ∃ v0_ : Value, e = .returned v0_ ∧ Kd.S (Kd.slice 118 k118) 43 w' w.heap.size (fun _ => True) v0_ r ∧ Below w.heap.size w w' := by
 have HR0 := mk hr0
 have HC0 := mk hc0
 clear hr0 hc0
 have HB := mk (Below.refl w.heap.size w)
 have H : ((spec_gridOf.f k l0).bind fun tz2 => (spec_parts.l0 k (([] : List (List S118))) tz2 0)) = some r := h
 clear h
 obtain ⟨yz1, hyz0⟩ : ∃ y_ : List (List S118), y_ = (([] : List (List S118))) := ⟨_, rfl⟩
 replace H : ((spec_gridOf.f k l0).bind fun tz2 => (spec_parts.l0 k yz1 tz2 0)) = some r := by (rw [hyz0]; with_reducible exact H)
 have Nyz0 := mk hyz0
 clear hyz0
 replace H := Option.bind_eq_some_iff.mp H
 obtain ⟨tz2, A20, H⟩ := H
 replace H : (spec_parts.l0 k yz1 tz2 0) = some r := H
 have A2 := mk A20
 clear A20
 have H' := mk H
 clear H
 go_enter Try.func150, Try.ntmps150
 go_wp2_with (first | ((with_reducible refine gate_dst (N := 8) rfl ?_); refine Kd.S_lit (Kd.slice 118 k118) _ 43 ?hg (N := 8) ?hd (xs := ([] : List (List S118))) (inner := []) (ok := fun _ => True) (okp := fun _ => True) ?hr ?hp (fun _ hk => hk) trivial (Below.refl _ _) (Nat.le_refl _) (by simp) ?_; (case hd => rfl); (case hg => rfl); (case hr => (go_simp; done)); (case hp => exact (Reps.none _ _)); intro vz2 w3 ho4 hb hg_ hnew_; clear hg_ hnew_; (rw [← Nyz0.out] at ho4); have HOz2 := mk (Kd.S_lower ho4 (below_size HB.out)); replace HB := mk (below_step HB.out hb); clear hb ho4) | ((with_reducible refine gate_callee (f := 158) rfl ?_); refine goesL_ (some 10) rfl rfl Try.func158 (by kernel_rfl) rfl #[.slice A0 l0.length c0] rfl (by (try simp only [bitvec_to_nat]); rfl) ?_; (with_reducible refine (spec_gridOf.calls k _ _ l0 tz2 _ ?side1 ?side2 A2.out).mono ?_); (case side1 => repeat (exact (Kd.C_below HR0.out HB.out))); (case side2 => exact HC0.out); rintro e w5 ⟨vz0, rfl, ho0, hb⟩; refine ⟨_, rfl, ?_⟩; replace HOz2 := mk (Kd.S_below HOz2.out hb); have HOz3 := mk (Kd.R_lower ho0 (below_size HB.out)); replace HB := mk (below_step HB.out hb); (try clear hb); (try clear ho0)))
 go_loopg [3, 5] k (fun kq v3 v5 w' => ∃ (x3_1 : List (List S118)) (x4_1 : List Bool) (x5_1 : Int), v5 = .int .i64 x5_1 ∧ Aside0 (spec_parts.l0 kq x3_1 x4_1 x5_1 = some r) ∧ Aside0 (kq ≤ k) ∧ Aside0 (Kd.S (Kd.slice 118 k118) 43 w' w.heap.size (fun _ => True) v3 x3_1) ∧ Aside0 (Kd.R Kd.bool 4 w' w.heap.size (fun _ => True) vz0 x4_1) ∧ Aside0 (Below w.heap.size w w'))
 case atStart => exact ⟨(yz1), (tz2), (0), (by rfl), H', ⟨Nat.le_refl _⟩, HOz2, HOz3, HB⟩
 case round =>
  clear H'
  obtain ⟨x3_1, x4_1, x5_1, rfl, HA, HK1, HO_3, HO_4, HB⟩ := hrel
  cases gk with
  | zero => exact absurd HA.out (by simp [spec_parts.l0])
  | succ k1 =>
   have H := HA.out
   clear HA
   simp only [spec_parts.l0] at H
   by_cases c6 : x5_1 < (x4_1.length : Int)
   ·rw [if_pos c6] at H
    have c6b0 : decide (x5_1 < (x4_1.length : Int)) = true := decide_eq_true c6
    clear c6
    by_cases c7 : 0 ≤ x5_1
    ·rw [if_pos c7] at H
     have c7b0 : decide (0 ≤ x5_1) = true := decide_eq_true c7
     clear c7
     obtain ⟨bq8, hbq8⟩ : ∃ b_ : Bool, b_ = (rdOf false x4_1 x5_1) := ⟨_, rfl⟩
     replace H : (if bq8 = true then ((spec_spreadFrom.f x4_1 x5_1).bind fun tz0 => ((spec_runsOf.f k1 tz0).bind fun tz1 => (if x3_1.length < 5864062014805 then (spec_parts.l1 k1 (x3_1 ++ [tz1]) x4_1 x5_1 tz0 0) else none))) else (spec_parts.l0 k1 x3_1 x4_1 (wrap64 (x5_1 + 1)))) = some r := by rw [← hbq8] at H; exact H
     have Nbq8 := mk hbq8
     clear hbq8
     by_cases c9 : bq8 = true
     ·subst c9
      have H1 : ((spec_spreadFrom.f x4_1 x5_1).bind fun tz0 => ((spec_runsOf.f k1 tz0).bind fun tz1 => (if x3_1.length < 5864062014805 then (spec_parts.l1 k1 (x3_1 ++ [tz1]) x4_1 x5_1 tz0 0) else none))) = some r := by rw [if_pos rfl] at H; exact H
      clear H
      have H := H1
      clear H1
      replace H := Option.bind_eq_some_iff.mp H
      obtain ⟨tz0, A100, H⟩ := H
      replace H : ((spec_runsOf.f k1 tz0).bind fun tz1 => (if x3_1.length < 5864062014805 then (spec_parts.l1 k1 (x3_1 ++ [tz1]) x4_1 x5_1 tz0 0) else none)) = some r := H
      have A10 := mk A100
      clear A100
      replace H := Option.bind_eq_some_iff.mp H
      obtain ⟨tz1, A110, H⟩ := H
      replace H : (if x3_1.length < 5864062014805 then (spec_parts.l1 k1 (x3_1 ++ [tz1]) x4_1 x5_1 tz0 0) else none) = some r := H
      have A11 := mk A110
      clear A110
      by_cases c12 : x3_1.length < 5864062014805
      ·rw [if_pos c12] at H
       have LMc12 := mk c12
       clear c12
       obtain ⟨yz0, hyz1⟩ : ∃ y_ : List (List S118), y_ = (x3_1 ++ [tz1]) := ⟨_, rfl⟩
       replace H : (spec_parts.l1 k1 yz0 x4_1 x5_1 tz0 0) = some r := by (rw [hyz1]; with_reducible exact H)
       have Nyz1 := mk hyz1
       clear hyz1
       have H' := mk H
       clear H
       obtain ⟨Ao13, co13, eo13⟩ := Kd.R_slice HO_4.out
       subst eo13
       have p151007 : 0 ≤ (x5_1 : Int) := of_decide_eq_true (by (with_reducible assumption))
       have q151007 : x5_1 < (x4_1.length : Int) := of_decide_eq_true (by (with_reducible assumption))
       obtain ⟨ad151007, e151007, hx151007_0⟩ := Kd.at_bool (Kd.R_reads' HO_4.out).2.2 x5_1 p151007 q151007
       (try rw [← Nbq8.out] at hx151007_0)
       cases e151007
       obtain ⟨gz_151007, cz_, ez_, _, _, _⟩ := Kd.R_form HO_4.out (by omega)
       (cases ez_)
       rw [add_at, Nat.zero_add] at hx151007_0
       replace p151007 := eq_true p151007
       replace q151007 := eq_true q151007
       go_wp2_with (first | ((with_reducible refine gate_callee (f := 159) rfl ?_); refine goesL_ (some 23) rfl rfl Try.func159 (by kernel_rfl) rfl #[.slice (some ⟨gz_151007, 0, none⟩) x4_1.length co13, .int .i64 x5_1] rfl (by (try simp only [bitvec_to_nat]); rfl) ?_; (with_reducible refine (spec_spreadFrom.calls _ _ x4_1 x5_1 tz0 _ ?side1 ?side2 A10.out).mono ?_); (case side1 => repeat (exact (Kd.R_reads' HO_4.out).2.2)); (case side2 => exact (Kd.R_reads' HO_4.out).2.1); rintro e w14 ⟨vz3, rfl, ho0, hb⟩; refine ⟨_, rfl, ?_⟩; replace HO_3 := mk (Kd.S_below HO_3.out hb); have HOz0 := mk (Kd.R_lower (Kd.R_new' ho0 (Kd.R_lt HO_4.out)) (below_size HB.out)); replace HO_4 := mk (Kd.R_elder' HO_4.out (Kd.R_base ho0) hb); replace HB := mk (below_step HB.out hb); (try clear hb); (try clear ho0); obtain ⟨Ao15, co15, eo15⟩ := Kd.R_slice HOz0.out; subst eo15) | ((with_reducible refine gate_callee (f := 160) rfl ?_); refine goesL_ (some 26) rfl rfl Try.func160 (by kernel_rfl) rfl #[.slice Ao15 tz0.length co15] rfl (by (try simp only [bitvec_to_nat]); rfl) ?_; (with_reducible refine (spec_runsOf.calls k1 _ _ tz0 tz1 _ ?side1 ?side2 A11.out).mono ?_); (case side1 => repeat (exact (Kd.R_reads' HOz0.out).2.2)); (case side2 => exact (Kd.R_reads' HOz0.out).2.1); rintro e w16 ⟨vz4, rfl, ho0, hb⟩; refine ⟨_, rfl, ?_⟩; replace HO_3 := mk (Kd.S_elder' HO_3.out (Kd.R_base ho0) hb); replace HO_4 := mk (Kd.R_below HO_4.out hb); replace HOz0 := mk (Kd.R_below HOz0.out hb); have HOz1 := mk (Kd.R_lower ho0 (below_size HB.out)); replace HB := mk (below_step HB.out hb); (try clear hb); (try clear ho0); obtain ⟨Ao18, co18, eo18⟩ := Kd.R_slice HOz1.out; subst eo18) | ((with_reducible refine gate_builtin (b := .append) (xs := #[.tmp 24, .tmp 27]) rfl ?_); at_builtin; refine Kd.S_append (Kd.slice 118 k118) (w0 := w) w.heap.size rfl (.tmp 24) (.tmp 27) 156 43 (.slice none 0 0) 24 rfl Try.underlying156 info43 rfl (by decide) (by omega) u3 x3_1 tz1 [.slice Ao18 tz1.length co18] (fun _ => True) (fun k_ => some k_ = (.slice Ao18 tz1.length co18 : Value).ownBlock) rfl rfl ?aP (fun k_ hk_ => ((Kd.R_mono (ok' := fun k_ => (fun _ => True) k_ ∧ some k_ ≠ (u3 : Value).ownBlock) (Kd.R_apart' HOz1.out (Kd.S_typed HO_3.out) (by decide)) (fun k_ hk => ⟨trivial, hk.2⟩))).1 k_ hk_.symm) ?aF ?aO ?aB ?aS ?aL ?_; (case aP => exact Kd.M_row (Kd.R_mono (Kd.R_tight rfl (Kd.R_mono (ok' := fun k_ => (fun _ => True) k_ ∧ some k_ ≠ (u3 : Value).ownBlock) (Kd.R_apart' HOz1.out (Kd.S_typed HO_3.out) (by decide)) (fun k_ hk => ⟨trivial, hk.2⟩))) (fun _ h_ => h_))); (case aB => exact HB.out); (case aF => exact (fun _ _ => trivial)); (case aO => exact (by exact Kd.S_mono HO_3.out (fun k_ hk => ⟨trivial, fun e_ => hk.2 e_⟩))); (case aS => exact (below_size HB.out)); (case aL => have := LMc12.out; omega); intro vz1 w17 ho hb hg hat; rw [← Nyz1.out] at ho; have n0_ := mk (Kd.R_over' HO_4.out (Kd.S_typed HO_3.out) (by decide) hg); have n1_ := mk (Kd.R_over' HOz0.out (Kd.S_typed HO_3.out) (by decide) hg); have n2_ := mk (hb); have n3_ := mk (ho); clear HO_4; clear HOz0; clear HB; clear HO_3; clear HOz1; have HO_4 := n0_; have HOz0 := n1_; have HB := n2_; have HOz4 := n3_; clear ho hb hg hat))
       go_loopg [7] k1 (fun kq v7 w' => ∃ (x4_2 : List Bool) (x7_2 : Int), v7 = .int .i64 x7_2 ∧ Aside0 (spec_parts.l1 kq yz0 x4_2 x5_1 tz0 x7_2 = some r) ∧ Aside0 (kq ≤ k1) ∧ Aside0 (Kd.S (Kd.slice 118 k118) 43 w' w.heap.size (fun _ => True) vz1 yz0) ∧ Aside0 (Kd.R Kd.bool 4 w' w.heap.size (fun k_ => some k_ ≠ ((.slice Ao15 tz0.length co15) : Value).ownBlock) (.slice (some ⟨gz_151007, 0, none⟩) x4_1.length co13) x4_2) ∧ Aside0 (Kd.R Kd.bool 4 w' w.heap.size (fun k_ => some k_ ≠ ((.slice (some ⟨gz_151007, 0, none⟩) x4_1.length co13) : Value).ownBlock) (.slice Ao15 tz0.length co15) tz0) ∧ Aside0 (Below w.heap.size w w'))
       case atStart => exact ⟨(x4_1), (0), (by rfl), H', ⟨Nat.le_refl _⟩, HOz4, ⟨by exact Kd.R_mono HO_4.out (fun _ hk => hk.2)⟩, ⟨by exact Kd.R_mono HOz0.out (fun _ hk => hk.2)⟩, HB⟩
       case round =>
        clear H'
        obtain ⟨x4_2, x7_2, rfl, HA, HK2, HO_3, HO_4, HO_6, HB⟩ := hrel
        have hl4_2 := (Kd.R_reads' HO_4.out).1
        rw [hl4_2] at HO_4
        (try simp only [hl4_2])
        (try simp only [hl4_2] at HO_6)
        cases gk with
        | zero => exact absurd HA.out (by simp [spec_parts.l1])
        | succ k2 =>
         have H := HA.out
         clear HA
         simp only [spec_parts.l1] at H
         by_cases c19 : x7_2 < (x4_2.length : Int)
         ·rw [if_pos c19] at H
          have c19b0 : decide (x7_2 < (x4_2.length : Int)) = true := decide_eq_true c19
          clear c19
          by_cases c20 : 0 ≤ x7_2
          ·rw [if_pos c20] at H
           have c20b0 : decide (0 ≤ x7_2) = true := decide_eq_true c20
           clear c20
           obtain ⟨bq21, hbq21⟩ : ∃ b_ : Bool, b_ = (rdOf false x4_2 x7_2) := ⟨_, rfl⟩
           replace H : (if bq21 = true then (if x7_2 < (tz0.length : Int) then (spec_parts.l1 k2 yz0 (x4_2.set (x7_2 : Int).toNat (!(rdOf false tz0 x7_2))) x5_1 tz0 (wrap64 (x7_2 + 1))) else none) else (spec_parts.l1 k2 yz0 (x4_2.set (x7_2 : Int).toNat false) x5_1 tz0 (wrap64 (x7_2 + 1)))) = some r := by rw [← hbq21] at H; exact H
           have Nbq21 := mk hbq21
           clear hbq21
           by_cases c22 : bq21 = true
           ·subst c22
            have H1 : (if x7_2 < (tz0.length : Int) then (spec_parts.l1 k2 yz0 (x4_2.set (x7_2 : Int).toNat (!(rdOf false tz0 x7_2))) x5_1 tz0 (wrap64 (x7_2 + 1))) else none) = some r := by rw [if_pos rfl] at H; exact H
            clear H
            have H := H1
            clear H1
            by_cases c23 : x7_2 < (tz0.length : Int)
            ·rw [if_pos c23] at H
             have c23b0 : decide (x7_2 < (tz0.length : Int)) = true := decide_eq_true c23
             clear c23
             obtain ⟨yz2, hyz2⟩ : ∃ y_ : List Bool, y_ = (x4_2.set (x7_2 : Int).toNat (!(rdOf false tz0 x7_2))) := ⟨_, rfl⟩
             replace H : (spec_parts.l1 k2 yz0 yz2 x5_1 tz0 (wrap64 (x7_2 + 1))) = some r := by (rw [hyz2]; with_reducible exact H)
             have Nyz2 := mk hyz2
             clear hyz2
             have H' := mk H
             clear H
             have p151017 : 0 ≤ (x7_2 : Int) := of_decide_eq_true (by (with_reducible assumption))
             have q151017 : x7_2 < (x4_2.length : Int) := of_decide_eq_true (by (with_reducible assumption))
             obtain ⟨ad151017, e151017, hx151017_0⟩ := Kd.at_bool (Kd.R_reads' HO_4.out).2.2 x7_2 p151017 q151017
             (try rw [← Nbq21.out] at hx151017_0)
             obtain rfl := Option.some.inj e151017
             replace p151017 := eq_true p151017
             replace q151017 := eq_true q151017
             have p151018 : 0 ≤ (x7_2 : Int) := of_decide_eq_true (by (with_reducible assumption))
             have q151018 : x7_2 < (tz0.length : Int) := of_decide_eq_true (by (with_reducible assumption))
             obtain ⟨ad151018, e151018, hx151018_0⟩ := Kd.at_bool (Kd.R_reads' HO_6.out).2.2 x7_2 p151018 q151018
             cases e151018
             replace p151018 := eq_true p151018
             replace q151018 := eq_true q151018
             have p24 : 0 ≤ (x7_2 : Int) := of_decide_eq_true (by (with_reducible assumption))
             have q24 : (x7_2 : Int) < ((x4_2.length : Int) : Int) := of_decide_eq_true (by (with_reducible assumption))
             obtain ⟨go24, co24, eo24, gb24, gl24, cl24, HG24⟩ := Kd.R_form HO_4.out (by omega)
             (cases eo24)
             have GB24 := mk gb24
             have GG24 := mk HG24
             clear gb24 gl24 HG24
             (skip)
             (simp only [add_plain] at hx151017_0)
             obtain ⟨hx24_0, hf24_0⟩ := Kd.R_celln false HO_4.out (x7_2 : Int) p24 q24
             replace p24 := eq_true p24
             replace q24 := eq_true q24
             have HP25 := Kd.R_putg HO_4.out (x7_2 : Int) (!(rdOf false tz0 x7_2))
             go_wp2_with (first | ((with_reducible refine gate_store (t := 4) (p := 48) rfl ?_); refine store_event (t := 4) (p := 48) (v := ?vo_w26) (w1 := (wr.setCell ⟨gz_151007, (x7_2 : Int).toNat, none⟩ (.bool (!(rdOf false tz0 x7_2))))) ?hg ?ho ?hn ?hr ?_; (case ho => rfl); (case hg => rfl); (case hn => rfl); (case hr => (go_simp; done)); intro w26 hw; have hg : wr.grownBy w26 (some gz_151007) := (by rw [hw]; exact HP25.2); have hp_ : Kd.R Kd.bool 4 w26 w.heap.size (fun k_ => some k_ ≠ (.slice (some ad151018) tz0.length co15 : Value).ownBlock) (.slice (some ⟨gz_151007, 0, none⟩) x4_2.length co13) yz2 := (by rw [hw, Nyz2.out]; exact HP25.1); clear HP25; replace HO_3 := mk (Kd.S_over' (v := (.slice (some ⟨gz_151007, 0, none⟩) x4_2.length co13)) HO_3.out (Kd.R_typed HO_4.out) (by decide) hg); replace HO_4 := mk (hp_); replace HO_6 := mk (Kd.R_after (v := (.slice (some ⟨gz_151007, 0, none⟩) x4_2.length co13)) (v1 := (.slice (some ⟨gz_151007, 0, none⟩) x4_2.length co13)) (ok := (fun _ => True)) (by exact Kd.R_mono HO_6.out (fun _ hk => ⟨trivial, hk⟩)) hg (.inl rfl)); replace HB := mk ((by rw [hw]; exact below_set HB.out GB24.out : Below w.heap.size w w26)); clear hg hw hp_))
             (try simp only [← hl4_2])
             go_roundg k2
             case measure => have := HK1.out; have := HK2.out; omega
             case rel => exact ⟨(yz2), (wrap64 (x7_2 + 1)), (by rfl), H', ⟨by have := HK1.out; have := HK2.out; omega⟩, HO_3, ⟨by (try simp only [hl4_2]); exact HO_4.out⟩, ⟨by (try simp only [hl4_2]); exact Kd.R_mono HO_6.out (fun _ hk => hk.2)⟩, HB⟩
            rw [if_neg c23] at H
            exact absurd H (by simp)
           replace c22 := Bool.eq_false_iff.mpr c22
           subst c22
           have H1 : (spec_parts.l1 k2 yz0 (x4_2.set (x7_2 : Int).toNat false) x5_1 tz0 (wrap64 (x7_2 + 1))) = some r := by rw [if_neg (show ¬ (false = true) by decide)] at H; exact H
           clear H
           have H := H1
           clear H1
           obtain ⟨yz3, hyz3⟩ : ∃ y_ : List Bool, y_ = (x4_2.set (x7_2 : Int).toNat false) := ⟨_, rfl⟩
           replace H : (spec_parts.l1 k2 yz0 yz3 x5_1 tz0 (wrap64 (x7_2 + 1))) = some r := by (rw [hyz3]; with_reducible exact H)
           have Nyz3 := mk hyz3
           clear hyz3
           have H' := mk H
           clear H
           have p151017 : 0 ≤ (x7_2 : Int) := of_decide_eq_true (by (with_reducible assumption))
           have q151017 : x7_2 < (x4_2.length : Int) := of_decide_eq_true (by (with_reducible assumption))
           obtain ⟨ad151017, e151017, hx151017_0⟩ := Kd.at_bool (Kd.R_reads' HO_4.out).2.2 x7_2 p151017 q151017
           (try rw [← Nbq21.out] at hx151017_0)
           obtain rfl := Option.some.inj e151017
           replace p151017 := eq_true p151017
           replace q151017 := eq_true q151017
           have p27 : 0 ≤ (x7_2 : Int) := of_decide_eq_true (by (with_reducible assumption))
           have q27 : (x7_2 : Int) < ((x4_2.length : Int) : Int) := of_decide_eq_true (by (with_reducible assumption))
           obtain ⟨go27, co27, eo27, gb27, gl27, cl27, HG27⟩ := Kd.R_form HO_4.out (by omega)
           (cases eo27)
           have GB27 := mk gb27
           have GG27 := mk HG27
           clear gb27 gl27 HG27
           (simp only [add_plain] at hx151017_0)
           obtain ⟨hx27_0, hf27_0⟩ := Kd.R_celln false HO_4.out (x7_2 : Int) p27 q27
           replace p27 := eq_true p27
           replace q27 := eq_true q27
           have HP28 := Kd.R_putg HO_4.out (x7_2 : Int) false
           go_wp2_with (first | ((with_reducible refine gate_store (t := 4) (p := 48) rfl ?_); refine store_event (t := 4) (p := 48) (v := ?vo_w29) (w1 := (wr.setCell ⟨gz_151007, (x7_2 : Int).toNat, none⟩ (.bool false))) ?hg ?ho ?hn ?hr ?_; (case ho => rfl); (case hg => rfl); (case hn => rfl); (case hr => (go_simp; done)); intro w29 hw; have hg : wr.grownBy w29 (some gz_151007) := (by rw [hw]; exact HP28.2); have hp_ : Kd.R Kd.bool 4 w29 w.heap.size (fun k_ => some k_ ≠ (.slice Ao15 tz0.length co15 : Value).ownBlock) (.slice (some ⟨gz_151007, 0, none⟩) x4_2.length co13) yz3 := (by rw [hw, Nyz3.out]; exact HP28.1); clear HP28; replace HO_3 := mk (Kd.S_over' (v := (.slice (some ⟨gz_151007, 0, none⟩) x4_2.length co13)) HO_3.out (Kd.R_typed HO_4.out) (by decide) hg); replace HO_4 := mk (hp_); replace HO_6 := mk (Kd.R_after (v := (.slice (some ⟨gz_151007, 0, none⟩) x4_2.length co13)) (v1 := (.slice (some ⟨gz_151007, 0, none⟩) x4_2.length co13)) (ok := (fun _ => True)) (by exact Kd.R_mono HO_6.out (fun _ hk => ⟨trivial, hk⟩)) hg (.inl rfl)); replace HB := mk ((by rw [hw]; exact below_set HB.out GB27.out : Below w.heap.size w w29)); clear hg hw hp_))
           (try simp only [← hl4_2])
           go_roundg k2
           case measure => have := HK1.out; have := HK2.out; omega
           case rel => exact ⟨(yz3), (wrap64 (x7_2 + 1)), (by rfl), H', ⟨by have := HK1.out; have := HK2.out; omega⟩, HO_3, ⟨by (try simp only [hl4_2]); exact HO_4.out⟩, ⟨by (try simp only [hl4_2]); exact Kd.R_mono HO_6.out (fun _ hk => hk.2)⟩, HB⟩
          rw [if_neg c20] at H
          exact absurd H (by simp)
         rw [if_neg c19] at H
         have c19b0 : decide (x7_2 < (x4_2.length : Int)) = false := decide_eq_false c19
         clear c19
         have H' := mk H
         clear H
         go_wp2
         (try simp only [← hl4_2])
         go_roundg k2
         case measure => have := HK1.out; have := HK2.out; omega
         case rel => exact ⟨(yz0), (x4_2), (wrap64 (x5_1 + 1)), (by rfl), H', ⟨by have := HK1.out; have := HK2.out; omega⟩, HO_3, ⟨by (try simp only [hl4_2]); exact Kd.R_mono HO_4.out (fun _ hk => trivial)⟩, HB⟩
      rw [if_neg c12] at H
      exact absurd H (by simp)
     replace c9 := Bool.eq_false_iff.mpr c9
     subst c9
     have H1 : (spec_parts.l0 k1 x3_1 x4_1 (wrap64 (x5_1 + 1))) = some r := by rw [if_neg (show ¬ (false = true) by decide)] at H; exact H
     clear H
     have H := H1
     clear H1
     have H' := mk H
     clear H
     obtain ⟨Ao30, co30, eo30⟩ := Kd.R_slice HO_4.out
     subst eo30
     have p151007 : 0 ≤ (x5_1 : Int) := of_decide_eq_true (by (with_reducible assumption))
     have q151007 : x5_1 < (x4_1.length : Int) := of_decide_eq_true (by (with_reducible assumption))
     obtain ⟨ad151007, e151007, hx151007_0⟩ := Kd.at_bool (Kd.R_reads' HO_4.out).2.2 x5_1 p151007 q151007
     (try rw [← Nbq8.out] at hx151007_0)
     cases e151007
     obtain ⟨gz_151007, cz_, ez_, _, _, _⟩ := Kd.R_form HO_4.out (by omega)
     (cases ez_)
     rw [add_at, Nat.zero_add] at hx151007_0
     replace p151007 := eq_true p151007
     replace q151007 := eq_true q151007
     go_wp2
     go_roundg k1
     case measure => have := HK1.out; omega
     case rel => exact ⟨(x3_1), (x4_1), (wrap64 (x5_1 + 1)), (by rfl), H', ⟨by have := HK1.out; omega⟩, HO_3, HO_4, HB⟩
    rw [if_neg c7] at H
    exact absurd H (by simp)
   rw [if_neg c6] at H
   have c6b0 : decide (x5_1 < (x4_1.length : Int)) = false := decide_eq_false c6
   clear c6
   obtain rfl := Option.some.inj H
   obtain ⟨Ao31, co31, eo31⟩ := Kd.R_slice HO_4.out
   subst eo31
   go_wp2
   go_ret
   exact ⟨_, by rfl, by exact HO_3.out, by exact HB.out⟩


noncomputable def spec_ChangedBoxes.l0 : Nat → List S47 → List (List S118) → Int → Option ((List S47))
 | 0, _, _, _ => none
 | k + 1, x5, x6, x7 => if x7 < (x6.length : Int) then (if 0 ≤ x7 then ((spec_boundsOf.f k (rd_L17 x6 x7)).bind fun btz0 => (if x5.length < 4398046511104 then (spec_ChangedBoxes.l0 k (x5 ++ [(⟨btz0.1, btz0.2.1, btz0.2.2.1, btz0.2.2.2⟩ : S47)]) x6 (wrap64 (x7 + 1))) else none)) else none) else (some x5)
noncomputable def spec_ChangedBoxes.f (k : Nat) (a0_0 : Int) (a0_1 : Int) (a0_2 : Int) (l0_3 : List Int) (a1_0 : Int) (a1_1 : Int) (a1_2 : Int) (l1_3 : List Int) : Option ((List S47)) := (spec_sameShape.f k a0_0 a0_1 a0_2 l0_3 a1_0 a1_1 a1_2 l1_3).bind fun tz2 => (if tz2 = true then ((spec_changed.f k a0_0 a0_1 a0_2 l0_3 a1_0 a1_1 a1_2 l1_3).bind fun tz1 => ((spec_parts.f k tz1).bind fun tz0 => (spec_ChangedBoxes.l0 k (([] : List S47)) tz0 0))) else (some ([] : List S47)))
theorem spec_ChangedBoxes.calls (k : Nat) (a0_0 : Int) (a0_1 : Int) (a0_2 : Int) (A0_3 : Option Addr) (c0_3 : Nat) (l0_3 : List Int) (a1_0 : Int) (a1_1 : Int) (a1_2 : Int) (A1_3 : Option Addr) (c1_3 : Nat) (l1_3 : List Int) (r : List S47) (w : World) (hr0_3 : Kd.C (Kd.int .i64) w A0_3 l0_3.length l0_3) (hc0_3 : l0_3.length ≤ c0_3) (hr1_3 : Kd.C (Kd.int .i64) w A1_3 l1_3.length l1_3) (hc1_3 : l1_3.length ≤ c1_3) (h : spec_ChangedBoxes.f k a0_0 a0_1 a0_2 l0_3 a1_0 a1_1 a1_2 l1_3 = some r) :
  Calls Try.prog 126 #[.agg #[.int .i64 a0_0, .int .i64 a0_1, .int .i64 a0_2, .slice A0_3 l0_3.length c0_3], .agg #[.int .i64 a1_0, .int .i64 a1_1, .int .i64 a1_2, .slice A1_3 l1_3.length c1_3]] w fun e w' => ∃ v0_ : Value, e = .returned v0_ ∧ Kd.R k47 47 w' w.heap.size (fun _ => True) v0_ r ∧ Below w.heap.size w w' := by
 have hu27 := Try.underlying27
 have HR0_3 := mk hr0_3
 have HC0_3 := mk hc0_3
 clear hr0_3 hc0_3
 have HR1_3 := mk hr1_3
 have HC1_3 := mk hc1_3
 clear hr1_3 hc1_3
 have HB := mk (Below.refl w.heap.size w)
 have H : ((spec_sameShape.f k a0_0 a0_1 a0_2 l0_3 a1_0 a1_1 a1_2 l1_3).bind fun tz2 => (if tz2 = true then ((spec_changed.f k a0_0 a0_1 a0_2 l0_3 a1_0 a1_1 a1_2 l1_3).bind fun tz1 => ((spec_parts.f k tz1).bind fun tz0 => (spec_ChangedBoxes.l0 k (([] : List S47)) tz0 0))) else (some ([] : List S47)))) = some r := h
 clear h
 obtain ⟨yz0, hyz0⟩ : ∃ y_ : List (S47), y_ = (([] : List S47)) := ⟨_, rfl⟩
 replace H : ((spec_sameShape.f k a0_0 a0_1 a0_2 l0_3 a1_0 a1_1 a1_2 l1_3).bind fun tz2 => (if tz2 = true then ((spec_changed.f k a0_0 a0_1 a0_2 l0_3 a1_0 a1_1 a1_2 l1_3).bind fun tz1 => ((spec_parts.f k tz1).bind fun tz0 => (spec_ChangedBoxes.l0 k yz0 tz0 0))) else (some ([] : List S47)))) = some r := by (rw [hyz0]; with_reducible exact H)
 have Nyz0 := mk hyz0
 clear hyz0
 replace H := Option.bind_eq_some_iff.mp H
 obtain ⟨tz2, A30, H⟩ := H
 replace H : (if tz2 = true then ((spec_changed.f k a0_0 a0_1 a0_2 l0_3 a1_0 a1_1 a1_2 l1_3).bind fun tz1 => ((spec_parts.f k tz1).bind fun tz0 => (spec_ChangedBoxes.l0 k yz0 tz0 0))) else (some ([] : List S47))) = some r := H
 have A3 := mk A30
 clear A30
 by_cases c4 : tz2 = true
 ·subst c4
  have H1 : ((spec_changed.f k a0_0 a0_1 a0_2 l0_3 a1_0 a1_1 a1_2 l1_3).bind fun tz1 => ((spec_parts.f k tz1).bind fun tz0 => (spec_ChangedBoxes.l0 k yz0 tz0 0))) = some r := by rw [if_pos rfl] at H; exact H
  clear H
  have H := H1
  clear H1
  replace H := Option.bind_eq_some_iff.mp H
  obtain ⟨tz1, A50, H⟩ := H
  replace H : ((spec_parts.f k tz1).bind fun tz0 => (spec_ChangedBoxes.l0 k yz0 tz0 0)) = some r := H
  have A5 := mk A50
  clear A50
  replace H := Option.bind_eq_some_iff.mp H
  obtain ⟨tz0, A60, H⟩ := H
  replace H : (spec_ChangedBoxes.l0 k yz0 tz0 0) = some r := H
  have A6 := mk A60
  clear A60
  have H' := mk H
  clear H
  go_enter Try.func126, Try.ntmps126
  go_wp2_with (first | ((with_reducible refine gate_dst (N := 2) rfl ?_); refine box_event (by rfl) (N := 2) (by rfl) (cs := #[.int .i64 a0_0, .int .i64 a0_1, .int .i64 a0_2, .slice A0_3 l0_3.length c0_3]) (t := 27) (by go_simp; done) ?_; intro gbz0 hg w7 hbox hb; replace HB := mk (below_step HB.out hb); have BKz0 := mk (hbox); clear hb hbox hg) | ((with_reducible refine gate_dst (N := 3) rfl ?_); refine box_event (by rfl) (N := 3) (by rfl) (cs := #[.int .i64 a1_0, .int .i64 a1_1, .int .i64 a1_2, .slice A1_3 l1_3.length c1_3]) (t := 27) (by go_simp; done) ?_; intro gbz1 hg w8 hbox hb; replace BKz0 := mk (blk_below BKz0.out hb); replace HB := mk (below_step HB.out hb); have BKz1 := mk (hbox); clear hb hbox hg) | ((with_reducible refine gate_dst (N := 8) rfl ?_); refine Kd.R_lit k47 _ 47 ?hg (N := 8) ?hd (xs := ([] : List S47)) (inner := []) (ok := fun _ => True) (okp := fun _ => True) ?hr ?hp (fun _ hk => hk) trivial (Below.refl _ _) (Nat.le_refl _) (by simp) ?_; (case hd => rfl); (case hg => rfl); (case hr => (go_simp; done)); (case hp => exact (Reps.none _ _)); intro vz0 w9 ho10 hb hg_ hnew_; clear hg_ hnew_; (rw [← Nyz0.out] at ho10); have HOz0 := mk (Kd.R_lower ho10 (below_size HB.out)); replace BKz0 := mk (blk_below BKz0.out hb); replace BKz1 := mk (blk_below BKz1.out hb); replace HB := mk (below_step HB.out hb); clear hb ho10; obtain ⟨hcz12_0, hcz12_1, hcz12_2, hcz12_3, hfz12_0, hfz12_1, hfz12_2, hfz12_3⟩ := c4 BKz0.out; obtain ⟨hcz13_0, hcz13_1, hcz13_2, hcz13_3, hfz13_0, hfz13_1, hfz13_2, -⟩ := c4 BKz1.out; have hfz13_3 := blk_frozen BKz1.out 3) | ((with_reducible refine gate_callee (f := 81) rfl ?_); refine goesL_ (some 11) rfl rfl Try.func81 (by kernel_rfl) rfl #[.agg #[.int .i64 a0_0, .int .i64 a0_1, .int .i64 a0_2, .slice A0_3 l0_3.length c0_3], .agg #[.int .i64 a1_0, .int .i64 a1_1, .int .i64 a1_2, .slice A1_3 l1_3.length c1_3]] rfl (by (try simp only [bitvec_to_nat]); rfl) ?_; (with_reducible refine (spec_sameShape.calls k a0_0 a0_1 a0_2 _ _ l0_3 a1_0 a1_1 a1_2 _ _ l1_3 true _ ?side1 ?side2 ?side3 ?side4 A3.out).mono ?_); (case side1 => repeat (exact (Kd.C_below HR0_3.out HB.out))); (case side2 => exact HC0_3.out); (case side3 => repeat (exact (Kd.C_below HR1_3.out HB.out))); (case side4 => exact HC1_3.out); rintro e w14 ⟨rfl, hb⟩; refine ⟨_, rfl, ?_⟩; replace HOz0 := mk (Kd.R_below HOz0.out hb); replace BKz0 := mk (blk_below BKz0.out hb); replace BKz1 := mk (blk_below BKz1.out hb); replace HB := mk (below_step HB.out hb); (try clear hb); obtain ⟨hcz15_0, hcz15_1, hcz15_2, hcz15_3, hfz15_0, hfz15_1, hfz15_2, hfz15_3⟩ := c4 BKz0.out; obtain ⟨hcz16_0, hcz16_1, hcz16_2, hcz16_3, hfz16_0, hfz16_1, hfz16_2, -⟩ := c4 BKz1.out; have hfz16_3 := blk_frozen BKz1.out 3) | ((with_reducible refine gate_callee (f := 151) rfl ?_); refine goesL_ (some 15) rfl rfl Try.func151 (by kernel_rfl) rfl #[.agg #[.int .i64 a0_0, .int .i64 a0_1, .int .i64 a0_2, .slice A0_3 l0_3.length c0_3], .agg #[.int .i64 a1_0, .int .i64 a1_1, .int .i64 a1_2, .slice A1_3 l1_3.length c1_3]] rfl (by (try simp only [bitvec_to_nat]); rfl) ?_; (with_reducible refine (spec_changed.calls k a0_0 a0_1 a0_2 _ _ l0_3 a1_0 a1_1 a1_2 _ _ l1_3 tz1 _ ?side1 ?side2 ?side3 ?side4 A5.out).mono ?_); (case side1 => repeat (exact (Kd.C_below HR0_3.out HB.out))); (case side2 => exact HC0_3.out); (case side3 => repeat (exact (Kd.C_below HR1_3.out HB.out))); (case side4 => exact HC1_3.out); rintro e w17 ⟨vz2, rfl, ho0, hb⟩; refine ⟨_, rfl, ?_⟩; replace HOz0 := mk (Kd.R_below HOz0.out hb); have HOz1 := mk (Kd.R_lower ho0 (below_size HB.out)); replace BKz0 := mk (blk_below BKz0.out hb); replace BKz1 := mk (blk_below BKz1.out hb); replace HB := mk (below_step HB.out hb); (try clear hb); (try clear ho0); obtain ⟨Ao18, co18, eo18⟩ := Kd.R_slice HOz1.out; subst eo18) | ((with_reducible refine gate_callee (f := 150) rfl ?_); refine goesL_ (some 16) rfl rfl Try.func150 (by kernel_rfl) rfl #[.slice Ao18 tz1.length co18] rfl (by (try simp only [bitvec_to_nat]); rfl) ?_; (with_reducible refine (spec_parts.calls k _ _ tz1 tz0 _ ?side1 ?side2 A6.out).mono ?_); (case side1 => repeat (exact (Kd.R_reads' HOz1.out).2.2)); (case side2 => exact (Kd.R_reads' HOz1.out).2.1); rintro e w19 ⟨vz1, rfl, ho0, hb⟩; refine ⟨_, rfl, ?_⟩; have n0_ := mk (Kd.R_below HOz0.out hb); have n2_ := mk (Kd.S_lower (Kd.S_new' ho0 (Kd.R_lt HOz1.out)) (below_size HB.out)); have n3_ := mk (blk_below BKz0.out hb); have n4_ := mk (blk_below BKz1.out hb); have n5_ := mk (below_step HB.out hb); clear HOz0; clear HOz1; clear BKz0; clear BKz1; clear HB; have HOz0 := n0_; have HOz2 := n2_; have BKz0 := n3_; have BKz1 := n4_; have HB := n5_; (try clear hb); (try clear ho0)))
  go_loopg [5, 7] k (fun kq v5 v7 w' => ∃ (x5_1 : List S47) (x7_1 : Int), v7 = .int .i64 x7_1 ∧ Aside0 (spec_ChangedBoxes.l0 kq x5_1 tz0 x7_1 = some r) ∧ Aside0 (kq ≤ k) ∧ Aside0 (Kd.R k47 47 w' w.heap.size (fun _ => True) v5 x5_1) ∧ Aside0 (Kd.S (Kd.slice 118 k118) 43 w' w.heap.size (fun _ => True) vz1 tz0) ∧ Aside0 (w'.heap[gbz0]? = some (.cells #[.int .i64 a0_0, .int .i64 a0_1, .int .i64 a0_2, (.slice A0_3 l0_3.length c0_3)] 27 (0, 0))) ∧ Aside0 (w'.heap[gbz1]? = some (.cells #[.int .i64 a1_0, .int .i64 a1_1, .int .i64 a1_2, (.slice A1_3 l1_3.length c1_3)] 27 (0, 0))) ∧ Aside0 (Below w.heap.size w w'))
  case atStart => exact ⟨(yz0), (0), (by rfl), H', ⟨Nat.le_refl _⟩, HOz0, ⟨by exact Kd.S_mono HOz2.out (fun _ hk => trivial)⟩, BKz0, BKz1, HB⟩
  case round =>
   clear H'
   obtain ⟨x5_1, x7_1, rfl, HA, HK1, HO_5, HO_6, BKz0, BKz1, HB⟩ := hrel
   cases gk with
   | zero => exact absurd HA.out (by simp [spec_ChangedBoxes.l0])
   | succ k1 =>
    have H := HA.out
    clear HA
    simp only [spec_ChangedBoxes.l0] at H
    by_cases c20 : x7_1 < (tz0.length : Int)
    ·rw [if_pos c20] at H
     have c20b0 : decide (x7_1 < (tz0.length : Int)) = true := decide_eq_true c20
     clear c20
     by_cases c21 : 0 ≤ x7_1
     ·rw [if_pos c21] at H
      have c21b0 : decide (0 ≤ x7_1) = true := decide_eq_true c21
      clear c21
      replace H := Option.bind_eq_some_iff.mp H
      obtain ⟨⟨tz3, tz4, tz5, tz6⟩, A220, H⟩ := H
      replace H : (if x5_1.length < 4398046511104 then (spec_ChangedBoxes.l0 k1 (x5_1 ++ [(⟨tz3, tz4, tz5, tz6⟩ : S47)]) tz0 (wrap64 (x7_1 + 1))) else none) = some r := H
      have A22 := mk A220
      clear A220
      by_cases c23 : x5_1.length < 4398046511104
      ·rw [if_pos c23] at H
       have LMc23 := mk c23
       clear c23
       obtain ⟨yz1, hyz1⟩ : ∃ y_ : List (S47), y_ = (x5_1 ++ [(⟨tz3, tz4, tz5, tz6⟩ : S47)]) := ⟨_, rfl⟩
       replace H : (spec_ChangedBoxes.l0 k1 yz1 tz0 (wrap64 (x7_1 + 1))) = some r := by (rw [hyz1]; with_reducible exact H)
       have Nyz1 := mk hyz1
       clear hyz1
       have H' := mk H
       clear H
       obtain ⟨Ao24, co24, eo24⟩ := Kd.S_slice HO_6.out
       subst eo24
       have p127013 : 0 ≤ (x7_1 : Int) := of_decide_eq_true (by (with_reducible assumption))
       have q127013 : x7_1 < (tz0.length : Int) := of_decide_eq_true (by (with_reducible assumption))
       obtain ⟨ad127013, Az0, cz0, e127013, hx127013_0, hl127013_0, hi127013_0⟩ := at_L17 (Kd.S_reads' HO_6.out).2.2 x7_1 p127013 q127013
       cases e127013
       obtain ⟨ce127013, hce127013, hMe127013, hcc127013⟩ := Kd.S_get HO_6.out [] x7_1 p127013 q127013
       obtain ⟨ve127013_0, rfl, ge127013_0⟩ := hMe127013
       have hv127013_0 := hcc127013 0 _ rfl
       rw [Nat.add_zero, show (Kd.slice 118 k118).sz = 1 from rfl, Nat.mul_one] at hv127013_0
       replace hv127013_0 := Option.some.inj (hv127013_0.symm.trans hx127013_0)
       rw [hv127013_0] at ge127013_0
       have HL127013_0 := mk (show Kd.R k118 118 _ _ _ _ (rd_L17 tz0 x7_1) from ge127013_0)
       clear hv127013_0 ge127013_0 hcc127013 hce127013
       have HR127013_0 := mk hi127013_0
       have HC127013_0 := mk hl127013_0
       clear hi127013_0 hl127013_0
       replace p127013 := eq_true p127013
       replace q127013 := eq_true q127013
       go_wp2_with (first | ((with_reducible refine gate_callee (f := 152) rfl ?_); refine goesL_ (some 28) rfl rfl Try.func152 (by kernel_rfl) rfl #[.slice Az0 (rd_L17 tz0 x7_1).length cz0] rfl (by (try simp only [bitvec_to_nat]); rfl) ?_; (with_reducible refine (spec_boundsOf.calls k1 _ _ (rd_L17 tz0 x7_1) tz3 tz4 tz5 tz6 _ ?side1 ?side2 A22.out).mono ?_); (case side1 => repeat (exact HR127013_0.out)); (case side2 => exact HC127013_0.out); rintro e w25 ⟨rfl, hb⟩; refine ⟨_, rfl, ?_⟩; replace HO_5 := mk (Kd.R_below HO_5.out hb); replace HO_6 := mk (Kd.S_below HO_6.out hb); replace HL127013_0 := mk (Kd.R_below HL127013_0.out hb); replace BKz0 := mk (blk_below BKz0.out hb); replace BKz1 := mk (blk_below BKz1.out hb); replace HR127013_0 := mk (Kd.C_below HR127013_0.out hb); replace HB := mk (below_step HB.out hb); (try clear hb)) | ((with_reducible refine gate_builtin (b := .append) (xs := #[.tmp 23, .tmp 29]) rfl ?_); at_builtin; refine Kd.R_append k47 (w0 := w) w.heap.size rfl (.tmp 23) (.tmp 29) 36 47 (.agg #[(.int .i64 0), (.int .i64 0), (.int .i64 0), (.int .i64 0)]) 32 rfl Try.underlying36 info47 rfl (by decide) (by omega) u5 x5_1 (⟨tz3, tz4, tz5, tz6⟩ : S47) [.int .i64 tz3, .int .i64 tz4, .int .i64 tz5, .int .i64 tz6] (fun _ => True) (fun _ => False) rfl rfl ?aP (fun _ hk => hk.elim) ?aF ?aO ?aB ?aS ?aL ?_; (case aP => exact k47_mkM _ _ _ (⟨tz3, tz4, tz5, tz6⟩ : S47)); (case aB => exact HB.out); (case aF => exact (fun _ _ => trivial)); (case aO => exact HO_5.out); (case aS => exact (below_size HB.out)); (case aL => have := LMc23.out; omega); intro vz3 w26 ho hb hg hat; rw [← Nyz1.out] at ho; have n0_ := mk (Kd.S_over' HO_6.out (Kd.R_typed HO_5.out) (by decide) hg); have n1_ := mk (blk_grown (g := gbz0) (o := .cells #[.int .i64 a0_0, .int .i64 a0_1, .int .i64 a0_2, .slice A0_3 l0_3.length c0_3] 27 (0, 0)) BKz0.out hg (Kd.R_ne HO_5.out BKz0.out (by decide))); have n2_ := mk (blk_grown (g := gbz1) (o := .cells #[.int .i64 a1_0, .int .i64 a1_1, .int .i64 a1_2, .slice A1_3 l1_3.length c1_3] 27 (0, 0)) BKz1.out hg (Kd.R_ne HO_5.out BKz1.out (by decide))); have n3_ := mk (Kd.R_over' HL127013_0.out (Kd.R_typed HO_5.out) (by decide) hg); have n4_ := mk (hb); have n5_ := mk (ho); clear HO_6; clear BKz0; clear BKz1; clear HL127013_0; clear HB; clear HO_5; have HO_6 := n0_; have BKz0 := n1_; have BKz1 := n2_; have HL127013_0 := n3_; have HB := n4_; have HOz3 := n5_; clear ho hb hg hat))
       go_roundg k1
       case measure => have := HK1.out; omega
       case rel => exact ⟨(yz1), (wrap64 (x7_1 + 1)), (by rfl), H', ⟨by have := HK1.out; omega⟩, HOz3, HO_6, BKz0, BKz1, HB⟩
      rw [if_neg c23] at H
      exact absurd H (by simp)
     rw [if_neg c21] at H
     exact absurd H (by simp)
    rw [if_neg c20] at H
    have c20b0 : decide (x7_1 < (tz0.length : Int)) = false := decide_eq_false c20
    clear c20
    obtain rfl := Option.some.inj H
    obtain ⟨Ao27, co27, eo27⟩ := Kd.S_slice HO_6.out
    subst eo27
    go_wp2
    go_ret
    exact ⟨_, by rfl, by exact HO_5.out, by exact HB.out⟩
 replace c4 := Bool.eq_false_iff.mpr c4
 subst c4
 have H1 : (some ([] : List S47)) = some r := by rw [if_neg (show ¬ (false = true) by decide)] at H; exact H
 clear H
 have H := H1
 clear H1
 obtain rfl := Option.some.inj H
 go_enter Try.func126, Try.ntmps126
 go_wp2_with (first | ((with_reducible refine gate_dst (N := 2) rfl ?_); refine box_event (by rfl) (N := 2) (by rfl) (cs := #[.int .i64 a0_0, .int .i64 a0_1, .int .i64 a0_2, .slice A0_3 l0_3.length c0_3]) (t := 27) (by go_simp; done) ?_; intro gbz0 hg w28 hbox hb; replace HB := mk (below_step HB.out hb); have BKz0 := mk (hbox); clear hb hbox hg) | ((with_reducible refine gate_dst (N := 3) rfl ?_); refine box_event (by rfl) (N := 3) (by rfl) (cs := #[.int .i64 a1_0, .int .i64 a1_1, .int .i64 a1_2, .slice A1_3 l1_3.length c1_3]) (t := 27) (by go_simp; done) ?_; intro gbz1 hg w29 hbox hb; replace BKz0 := mk (blk_below BKz0.out hb); replace HB := mk (below_step HB.out hb); have BKz1 := mk (hbox); clear hb hbox hg) | ((with_reducible refine gate_dst (N := 8) rfl ?_); refine Kd.R_lit k47 _ 47 ?hg (N := 8) ?hd (xs := ([] : List S47)) (inner := []) (ok := fun _ => True) (okp := fun _ => True) ?hr ?hp (fun _ hk => hk) trivial (Below.refl _ _) (Nat.le_refl _) (by simp) ?_; (case hd => rfl); (case hg => rfl); (case hr => (go_simp; done)); (case hp => exact (Reps.none _ _)); intro vz0 w30 ho31 hb hg_ hnew_; clear hg_ hnew_; (rw [← Nyz0.out] at ho31); have HOz0 := mk (Kd.R_lower ho31 (below_size HB.out)); replace BKz0 := mk (blk_below BKz0.out hb); replace BKz1 := mk (blk_below BKz1.out hb); replace HB := mk (below_step HB.out hb); clear hb ho31; obtain ⟨hcz33_0, hcz33_1, hcz33_2, hcz33_3, -⟩ := c4 BKz0.out; obtain ⟨hcz34_0, hcz34_1, hcz34_2, -⟩ := c4 BKz1.out; have hcz34_3 : w30.cell? ⟨gbz1, 3, none⟩ = some (.slice A1_3 l1_3.length c1_3) := (blk_cell BKz1.out 3).trans rfl) | ((with_reducible refine gate_callee (f := 81) rfl ?_); refine goesL_ (some 11) rfl rfl Try.func81 (by kernel_rfl) rfl #[.agg #[.int .i64 a0_0, .int .i64 a0_1, .int .i64 a0_2, .slice A0_3 l0_3.length c0_3], .agg #[.int .i64 a1_0, .int .i64 a1_1, .int .i64 a1_2, .slice A1_3 l1_3.length c1_3]] rfl (by (try simp only [bitvec_to_nat]); rfl) ?_; (with_reducible refine (spec_sameShape.calls k a0_0 a0_1 a0_2 _ _ l0_3 a1_0 a1_1 a1_2 _ _ l1_3 false _ ?side1 ?side2 ?side3 ?side4 A3.out).mono ?_); (case side1 => repeat (exact (Kd.C_below HR0_3.out HB.out))); (case side2 => exact HC0_3.out); (case side3 => repeat (exact (Kd.C_below HR1_3.out HB.out))); (case side4 => exact HC1_3.out); rintro e w35 ⟨rfl, hb⟩; refine ⟨_, rfl, ?_⟩; have n3_ := mk (below_step HB.out hb); clear HOz0; clear BKz0; clear BKz1; clear HB; have HB := n3_; (try clear hb)))
 go_ret
 exact ⟨_, by rfl, by exact Kd.R_nil _ _ _ _ _, by exact HB.out⟩


noncomputable def spec_DrawPatchImage.f (k : Nat) (l0 : List Int) : Option (Int × Int × Int × List Int × Int × Int × Int × List Int × (List S47)) := (spec_newReader.f l0).bind fun btz3 => ((spec_twoImages.f k btz3.1 btz3.2).bind fun btz0 => ((spec_ChangedBoxes.f k btz0.1 btz0.2.1 btz0.2.2.1 btz0.2.2.2.1 btz0.2.2.2.2.1 btz0.2.2.2.2.2.1 btz0.2.2.2.2.2.2.1 btz0.2.2.2.2.2.2.2.1).bind fun tz9 => ((spec_reader_pick.f k btz3.1 btz0.2.2.2.2.2.2.2.2 4).bind fun btz2 => (if btz2.1 = 0 then ((spec_anyBox.f k btz3.1 btz2.2).bind fun btz1 => (if tz9.length < 4398046511104 then (some (btz0.1, btz0.2.1, btz0.2.2.1, btz0.2.2.2.1, btz0.2.2.2.2.1, btz0.2.2.2.2.2.1, btz0.2.2.2.2.2.2.1, btz0.2.2.2.2.2.2.2.1, (tz9 ++ [(⟨btz1.1, btz1.2.1, btz1.2.2.1, btz1.2.2.2.1⟩ : S47)]))) else none)) else (some (btz0.1, btz0.2.1, btz0.2.2.1, btz0.2.2.2.1, btz0.2.2.2.2.1, btz0.2.2.2.2.2.1, btz0.2.2.2.2.2.2.1, btz0.2.2.2.2.2.2.2.1, tz9))))))
theorem spec_DrawPatchImage.calls (k : Nat) (A0 : Option Addr) (c0 : Nat) (l0 : List Int) (r1 : Int) (r2 : Int) (r3 : Int) (r4 : List Int) (r5 : Int) (r6 : Int) (r7 : Int) (r8 : List Int) (r9 : List S47) (w : World) (hr0 : Kd.C (Kd.int .u8) w A0 l0.length l0) (hc0 : l0.length ≤ c0) (h : spec_DrawPatchImage.f k l0 = some (r1, r2, r3, r4, r5, r6, r7, r8, r9)) :
  Calls Try.prog 75 #[.slice A0 l0.length c0] w fun e w' => ∃ v3_ v7_ v8_ : Value, e = .returned (.tuple #[.agg #[.int .i64 r1, .int .i64 r2, .int .i64 r3, v3_], .agg #[.int .i64 r5, .int .i64 r6, .int .i64 r7, v7_], v8_]) ∧ Kd.Q (Kd.int .i64) 3 w' w.heap.size (fun k_ => some k_ ≠ (v7_ : Value).ownBlock) v3_ r4 ∧ Kd.Q (Kd.int .i64) 3 w' w.heap.size (fun k_ => some k_ ≠ (v3_ : Value).ownBlock) v7_ r8 ∧ Kd.R k47 47 w' w.heap.size (fun _ => True) v8_ r9 ∧ Below w.heap.size w w' := by
 have hu27 := Try.underlying27
 have HR0 := mk hr0
 have HC0 := mk hc0
 clear hr0 hc0
 have HB := mk (Below.refl w.heap.size w)
 have H : ((spec_newReader.f l0).bind fun btz3 => ((spec_twoImages.f k btz3.1 btz3.2).bind fun btz0 => ((spec_ChangedBoxes.f k btz0.1 btz0.2.1 btz0.2.2.1 btz0.2.2.2.1 btz0.2.2.2.2.1 btz0.2.2.2.2.2.1 btz0.2.2.2.2.2.2.1 btz0.2.2.2.2.2.2.2.1).bind fun tz9 => ((spec_reader_pick.f k btz3.1 btz0.2.2.2.2.2.2.2.2 4).bind fun btz2 => (if btz2.1 = 0 then ((spec_anyBox.f k btz3.1 btz2.2).bind fun btz1 => (if tz9.length < 4398046511104 then (some (btz0.1, btz0.2.1, btz0.2.2.1, btz0.2.2.2.1, btz0.2.2.2.2.1, btz0.2.2.2.2.2.1, btz0.2.2.2.2.2.2.1, btz0.2.2.2.2.2.2.2.1, (tz9 ++ [(⟨btz1.1, btz1.2.1, btz1.2.2.1, btz1.2.2.2.1⟩ : S47)]))) else none)) else (some (btz0.1, btz0.2.1, btz0.2.2.1, btz0.2.2.2.1, btz0.2.2.2.2.1, btz0.2.2.2.2.2.1, btz0.2.2.2.2.2.2.1, btz0.2.2.2.2.2.2.2.1, tz9))))))) = some (r1, r2, r3, r4, r5, r6, r7, r8, r9) := h
 clear h
 replace H := Option.bind_eq_some_iff.mp H
 obtain ⟨⟨tz8, tz17⟩, A20, H⟩ := H
 replace H : ((spec_twoImages.f k tz8 tz17).bind fun btz0 => ((spec_ChangedBoxes.f k btz0.1 btz0.2.1 btz0.2.2.1 btz0.2.2.2.1 btz0.2.2.2.2.1 btz0.2.2.2.2.2.1 btz0.2.2.2.2.2.2.1 btz0.2.2.2.2.2.2.2.1).bind fun tz9 => ((spec_reader_pick.f k tz8 btz0.2.2.2.2.2.2.2.2 4).bind fun btz2 => (if btz2.1 = 0 then ((spec_anyBox.f k tz8 btz2.2).bind fun btz1 => (if tz9.length < 4398046511104 then (some (btz0.1, btz0.2.1, btz0.2.2.1, btz0.2.2.2.1, btz0.2.2.2.2.1, btz0.2.2.2.2.2.1, btz0.2.2.2.2.2.2.1, btz0.2.2.2.2.2.2.2.1, (tz9 ++ [(⟨btz1.1, btz1.2.1, btz1.2.2.1, btz1.2.2.2.1⟩ : S47)]))) else none)) else (some (btz0.1, btz0.2.1, btz0.2.2.1, btz0.2.2.2.1, btz0.2.2.2.2.1, btz0.2.2.2.2.2.1, btz0.2.2.2.2.2.2.1, btz0.2.2.2.2.2.2.2.1, tz9)))))) = some (r1, r2, r3, r4, r5, r6, r7, r8, r9) := H
 have A2 := mk A20
 clear A20
 replace H := Option.bind_eq_some_iff.mp H
 obtain ⟨⟨tz0, tz2, tz4, tz5, tz1, tz3, tz6, tz7, tz10⟩, A30, H⟩ := H
 replace H : ((spec_ChangedBoxes.f k tz0 tz2 tz4 tz5 tz1 tz3 tz6 tz7).bind fun tz9 => ((spec_reader_pick.f k tz8 tz10 4).bind fun btz2 => (if btz2.1 = 0 then ((spec_anyBox.f k tz8 btz2.2).bind fun btz1 => (if tz9.length < 4398046511104 then (some (tz0, tz2, tz4, tz5, tz1, tz3, tz6, tz7, (tz9 ++ [(⟨btz1.1, btz1.2.1, btz1.2.2.1, btz1.2.2.2.1⟩ : S47)]))) else none)) else (some (tz0, tz2, tz4, tz5, tz1, tz3, tz6, tz7, tz9))))) = some (r1, r2, r3, r4, r5, r6, r7, r8, r9) := H
 have A3 := mk A30
 clear A30
 replace H := Option.bind_eq_some_iff.mp H
 obtain ⟨tz9, A40, H⟩ := H
 replace H : ((spec_reader_pick.f k tz8 tz10 4).bind fun btz2 => (if btz2.1 = 0 then ((spec_anyBox.f k tz8 btz2.2).bind fun btz1 => (if tz9.length < 4398046511104 then (some (tz0, tz2, tz4, tz5, tz1, tz3, tz6, tz7, (tz9 ++ [(⟨btz1.1, btz1.2.1, btz1.2.2.1, btz1.2.2.2.1⟩ : S47)]))) else none)) else (some (tz0, tz2, tz4, tz5, tz1, tz3, tz6, tz7, tz9)))) = some (r1, r2, r3, r4, r5, r6, r7, r8, r9) := H
 have A4 := mk A40
 clear A40
 replace H := Option.bind_eq_some_iff.mp H
 obtain ⟨⟨tz11, tz12⟩, A50, H⟩ := H
 replace H : (if tz11 = 0 then ((spec_anyBox.f k tz8 tz12).bind fun btz1 => (if tz9.length < 4398046511104 then (some (tz0, tz2, tz4, tz5, tz1, tz3, tz6, tz7, (tz9 ++ [(⟨btz1.1, btz1.2.1, btz1.2.2.1, btz1.2.2.2.1⟩ : S47)]))) else none)) else (some (tz0, tz2, tz4, tz5, tz1, tz3, tz6, tz7, tz9))) = some (r1, r2, r3, r4, r5, r6, r7, r8, r9) := H
 have A5 := mk A50
 clear A50
 by_cases c6 : tz11 = 0
 ·rw [if_pos c6] at H
  have c6b0 : (tz11 == 0) = true := beq_iff_eq.mpr c6
  have c6b1 : (tz11 != 0) = false := bne_eq_false_iff_eq.mpr c6
  clear c6
  replace H := Option.bind_eq_some_iff.mp H
  obtain ⟨⟨tz13, tz14, tz15, tz16, tz18⟩, A70, H⟩ := H
  replace H : (if tz9.length < 4398046511104 then (some (tz0, tz2, tz4, tz5, tz1, tz3, tz6, tz7, (tz9 ++ [(⟨tz13, tz14, tz15, tz16⟩ : S47)]))) else none) = some (r1, r2, r3, r4, r5, r6, r7, r8, r9) := H
  have A7 := mk A70
  clear A70
  by_cases c8 : tz9.length < 4398046511104
  ·rw [if_pos c8] at H
   have LMc8 := mk c8
   clear c8
   obtain ⟨yz0, hyz0⟩ : ∃ y_ : List (S47), y_ = (tz9 ++ [(⟨tz13, tz14, tz15, tz16⟩ : S47)]) := ⟨_, rfl⟩
   replace H : (some (tz0, tz2, tz4, tz5, tz1, tz3, tz6, tz7, yz0)) = some (r1, r2, r3, r4, r5, r6, r7, r8, r9) := by (rw [hyz0]; with_reducible exact H)
   have Nyz0 := mk hyz0
   clear hyz0
   simp only [Option.some.injEq, Prod.mk.injEq] at H
   obtain ⟨rfl, rfl, rfl, rfl, rfl, rfl, rfl, rfl, rfl⟩ := H
   go_enter Try.func75, Try.ntmps75
   try go_wp2_with (first | ((with_reducible refine gate_dst (N := 2) rfl ?_); refine box_event (by rfl) (N := 2) (by rfl) (cs := #[.int .i64 0, .int .i64 0, .int .i64 0, .slice none 0 0]) (t := 27) (by go_simp; done) ?_; intro gbz0 hg w9 hbox hb; have BKz0 := mk (hbox); have GEz2 := mk ((by rw [hg]; exact (below_size HB.out) : w.heap.size ≤ gbz0)); replace HB := mk (below_step HB.out hb); clear hb hbox hg) | ((with_reducible refine gate_dst (N := 3) rfl ?_); refine box_event (by rfl) (N := 3) (by rfl) (cs := #[.int .i64 0, .int .i64 0, .int .i64 0, .slice none 0 0]) (t := 27) (by go_simp; done) ?_; intro gbz1 hg w10 hbox hb; have BKz1 := mk (hbox); have GEz3 := mk ((by rw [hg]; exact (below_size HB.out) : w.heap.size ≤ gbz1)); replace HB := mk (below_step HB.out hb); have NBz4 := mk ((by rw [hg]; exact Nat.ne_of_lt (blk_lt BKz0.out) : gbz0 ≠ gbz1)); have NBz5 := mk ((by rw [hg]; exact Nat.ne_of_gt (blk_lt BKz0.out) : gbz1 ≠ gbz0)); replace BKz0 := mk (blk_below BKz0.out hb); clear hb hbox hg) | ((with_reducible refine gate_callee (f := 86) rfl ?_); refine goesL_ (some 10) rfl rfl Try.func86 (by kernel_rfl) rfl #[.slice A0 l0.length c0] rfl (by (try simp only [bitvec_to_nat]); rfl) ?_; (with_reducible refine (spec_newReader.calls _ _ l0 tz8 tz17 w _ ?side1 ?side2 ?side3 A2.out).mono ?_); (case side1 => repeat (with_reducible exact HB.out)); (case side2 => exact HR0.out); (case side3 => exact HC0.out); rintro e w11 ⟨gz0, rfl, hi, hb, hb2⟩; refine ⟨_, rfl, ?_⟩; replace HB := mk (hb); have HI76005 := mk (hi); have NBz12 := mk (Ne.symm (IsS144.ne_blk hi (blk_below BKz0.out hb2) (by decide))); replace BKz0 := mk (blk_below BKz0.out hb2); have NBz13 := mk (Ne.symm (IsS144.ne_blk hi (blk_below BKz1.out hb2) (by decide))); replace BKz1 := mk (blk_below BKz1.out hb2); (try clear hb); (try clear hb2); (try clear hi)) | ((with_reducible refine gate_callee (f := 85) rfl ?_); refine goesL_ (some 13) rfl rfl Try.func85 (by kernel_rfl) rfl #[.pointer (some ⟨gz0, 0, none⟩)] rfl (by (try simp only [bitvec_to_nat]); rfl) ?_; (with_reducible refine (spec_twoImages.calls k gz0 tz8 tz17 tz0 tz2 tz4 tz5 tz1 tz3 tz6 tz7 tz10 w _ ?side1 ?side2 A3.out).mono ?_); (case side1 => repeat (with_reducible exact HI76005.out)); (case side2 => repeat (with_reducible exact HB.out)); rintro e w12 ⟨vz1, vz2, rfl, ho0, ho1, hi, hb, hk⟩; refine ⟨_, rfl, ?_⟩; replace BKz0 := mk (KeepBut.blk hk (g' := gbz0) (o := .cells #[.int .i64 0, .int .i64 0, .int .i64 0, .slice none 0 0] 27 (0, 0)) BKz0.out NBz12.out (by simp)); replace BKz1 := mk (KeepBut.blk hk (g' := gbz1) (o := .cells #[.int .i64 0, .int .i64 0, .int .i64 0, .slice none 0 0] 27 (0, 0)) BKz1.out NBz13.out (by simp)); have HOz0 := mk (Kd.Q_lower ho0 (below_size HB.out)); have HOz1 := mk (Kd.Q_lower ho1 (below_size HB.out)); replace HB := mk (hb); replace HI76005 := mk (hi); (try clear hb); (try clear hk); (try clear hi); (try clear ho0); (try clear ho1)) | ((with_reducible refine gate_dst (N := 6) rfl ?_); refine box_event (by rfl) (N := 6) (by rfl) (cs := #[.int .i64 0, .int .i64 0, .int .i64 0, .slice none 0 0]) (t := 27) (by go_simp; done) ?_; intro gbz2 hg w13 hbox hb; replace HOz0 := mk (Kd.Q_below HOz0.out hb); replace HOz1 := mk (Kd.Q_below HOz1.out hb); have BKz2 := mk (hbox); have GEz0 := mk ((by rw [hg]; exact (below_size HB.out) : w.heap.size ≤ gbz2)); replace HB := mk (below_step HB.out hb); have NBz8 := mk ((by rw [hg]; exact Nat.ne_of_lt (blk_lt BKz0.out) : gbz0 ≠ gbz2)); have NBz2 := mk ((by rw [hg]; exact Nat.ne_of_gt (blk_lt BKz0.out) : gbz2 ≠ gbz0)); replace BKz0 := mk (blk_below BKz0.out hb); have NBz9 := mk ((by rw [hg]; exact Nat.ne_of_lt (blk_lt BKz1.out) : gbz1 ≠ gbz2)); have NBz3 := mk ((by rw [hg]; exact Nat.ne_of_gt (blk_lt BKz1.out) : gbz2 ≠ gbz1)); replace BKz1 := mk (blk_below BKz1.out hb); have NBz16 := mk ((by rw [hg]; exact Nat.ne_of_lt (IsS144.lt (show IsS144 w _ gz0 tz8 tz10 from by exact HI76005.out)) : gz0 ≠ gbz2)); have NBz14 := mk ((by rw [hg]; exact Nat.ne_of_gt (IsS144.lt (show IsS144 w _ gz0 tz8 tz10 from by exact HI76005.out)) : gbz2 ≠ gz0)); replace HI76005 := mk (IsS144.below HI76005.out hb); clear hb hbox hg) | ((with_reducible refine gate_dst (N := 7) rfl ?_); refine box_event (by rfl) (N := 7) (by rfl) (cs := #[.int .i64 0, .int .i64 0, .int .i64 0, .slice none 0 0]) (t := 27) (by go_simp; done) ?_; intro gbz3 hg w14 hbox hb; replace HOz0 := mk (Kd.Q_below HOz0.out hb); replace HOz1 := mk (Kd.Q_below HOz1.out hb); have BKz3 := mk (hbox); have GEz1 := mk ((by rw [hg]; exact (below_size HB.out) : w.heap.size ≤ gbz3)); replace HB := mk (below_step HB.out hb); have NBz6 := mk ((by rw [hg]; exact Nat.ne_of_lt (blk_lt BKz0.out) : gbz0 ≠ gbz3)); have NBz0 := mk ((by rw [hg]; exact Nat.ne_of_gt (blk_lt BKz0.out) : gbz3 ≠ gbz0)); replace BKz0 := mk (blk_below BKz0.out hb); have NBz7 := mk ((by rw [hg]; exact Nat.ne_of_lt (blk_lt BKz1.out) : gbz1 ≠ gbz3)); have NBz1 := mk ((by rw [hg]; exact Nat.ne_of_gt (blk_lt BKz1.out) : gbz3 ≠ gbz1)); replace BKz1 := mk (blk_below BKz1.out hb); have NBz11 := mk ((by rw [hg]; exact Nat.ne_of_lt (blk_lt BKz2.out) : gbz2 ≠ gbz3)); have NBz10 := mk ((by rw [hg]; exact Nat.ne_of_gt (blk_lt BKz2.out) : gbz3 ≠ gbz2)); replace BKz2 := mk (blk_below BKz2.out hb); have NBz17 := mk ((by rw [hg]; exact Nat.ne_of_lt (IsS144.lt (show IsS144 w _ gz0 tz8 tz10 from by exact HI76005.out)) : gz0 ≠ gbz3)); have NBz15 := mk ((by rw [hg]; exact Nat.ne_of_gt (IsS144.lt (show IsS144 w _ gz0 tz8 tz10 from by exact HI76005.out)) : gbz3 ≠ gz0)); replace HI76005 := mk (IsS144.below HI76005.out hb); clear hb hbox hg; have hnc17 := NBz10.out; have hnb18 := NBz14.out; have hnc18 := NBz16.out; have hcz19_0 : w14.cell? ⟨gbz2, 0, none⟩ = some (.int .i64 0) := (blk_cell BKz2.out 0).trans rfl; have hcz19_1 : w14.cell? ⟨gbz2, 1, none⟩ = some (.int .i64 0) := (blk_cell BKz2.out 1).trans rfl; have hcz19_2 : w14.cell? ⟨gbz2, 2, none⟩ = some (.int .i64 0) := (blk_cell BKz2.out 2).trans rfl; have hcz19_3 : w14.cell? ⟨gbz2, 3, none⟩ = some (.slice none 0 0) := (blk_cell BKz2.out 3).trans rfl; have hfz19_0 := blk_frozen BKz2.out 0; have hfz19_1 := blk_frozen BKz2.out 1; have hfz19_2 := blk_frozen BKz2.out 2; have hfz19_3 := blk_frozen BKz2.out 3; obtain ⟨Ao20, co20, eo20, _⟩ := Kd.Q_slice HOz0.out; subst eo20; have hnb21 := NBz0.out; have hnc21 := NBz6.out; have hnb22 := NBz1.out; have hnc22 := NBz7.out; have hnb23 := NBz15.out; have hnc23 := NBz17.out; have hcz24_0 : w14.cell? ⟨gbz3, 0, none⟩ = some (.int .i64 0) := (blk_cell BKz3.out 0).trans rfl; have hcz24_1 : w14.cell? ⟨gbz3, 1, none⟩ = some (.int .i64 0) := (blk_cell BKz3.out 1).trans rfl; have hcz24_2 : w14.cell? ⟨gbz3, 2, none⟩ = some (.int .i64 0) := (blk_cell BKz3.out 2).trans rfl; have hcz24_3 : w14.cell? ⟨gbz3, 3, none⟩ = some (.slice none 0 0) := (blk_cell BKz3.out 3).trans rfl; have hfz24_0 := blk_frozen BKz3.out 0; have hfz24_1 := blk_frozen BKz3.out 1; have hfz24_2 := blk_frozen BKz3.out 2; have hfz24_3 := blk_frozen BKz3.out 3; obtain ⟨Ao25, co25, eo25, _⟩ := Kd.Q_slice HOz1.out; subst eo25) | ((with_reducible refine gate_callee (f := 126) rfl ?_); refine goesL_ (some 18) rfl rfl Try.func126 (by kernel_rfl) rfl #[.agg #[.int .i64 tz0, .int .i64 tz2, .int .i64 tz4, .slice Ao20 tz5.length co20], .agg #[.int .i64 tz1, .int .i64 tz3, .int .i64 tz6, .slice Ao25 tz7.length co25]] rfl (by (try simp only [bitvec_to_nat]); rfl) ?_; (with_reducible refine (spec_ChangedBoxes.calls k tz0 tz2 tz4 _ _ tz5 tz1 tz3 tz6 _ _ tz7 tz9 _ ?side1 ?side2 ?side3 ?side4 A4.out).mono ?_); (case side1 => refine (Kd.Q_reads' (e := 3) (base := w.heap.size) (ok := fun k_ => some k_ ≠ (.slice Ao25 tz7.length co25 : Value).ownBlock) (n := tz5.length) (c := co20) ?_).2.2; exact (by exact (Kd.Q_mono (Kd.Q_mono (Kd.Q_far (p := ⟨gbz3, 3, none⟩) (Kd.Q_far (p := ⟨gbz3, 2, none⟩) (Kd.Q_far (p := ⟨gbz3, 1, none⟩) (Kd.Q_far (p := ⟨gbz3, 0, none⟩) (Kd.Q_far (p := ⟨gbz2, 3, none⟩) (Kd.Q_far (p := ⟨gbz2, 2, none⟩) (Kd.Q_far (p := ⟨gbz2, 1, none⟩) (Kd.Q_far (p := ⟨gbz2, 0, none⟩) (Kd.Q_types (Kd.Q_types HOz0.out BKz2.out (by decide)) BKz3.out (by decide)) (fun _ hk => hk.1.2) (.int .i64 tz0)) (fun _ hk => hk.1.2) (.int .i64 tz2)) (fun _ hk => hk.1.2) (.int .i64 tz4)) (fun _ hk => hk.1.2) (.slice Ao20 tz5.length co20)) (fun _ hk => hk.2) (.int .i64 tz1)) (fun _ hk => hk.2) (.int .i64 tz3)) (fun _ hk => hk.2) (.int .i64 tz6)) (fun _ hk => hk.2) (.slice Ao25 tz7.length co25)) (fun _ h_ => h_.1)) (fun _ h_ => h_.1)))); (case side2 => exact (Kd.Q_reads' HOz0.out).2.1); (case side3 => refine (Kd.Q_reads' (e := 3) (base := w.heap.size) (ok := fun k_ => some k_ ≠ (.slice Ao20 tz5.length co20 : Value).ownBlock) (n := tz7.length) (c := co25) ?_).2.2; exact (by exact (Kd.Q_mono (Kd.Q_mono (Kd.Q_far (p := ⟨gbz3, 3, none⟩) (Kd.Q_far (p := ⟨gbz3, 2, none⟩) (Kd.Q_far (p := ⟨gbz3, 1, none⟩) (Kd.Q_far (p := ⟨gbz3, 0, none⟩) (Kd.Q_far (p := ⟨gbz2, 3, none⟩) (Kd.Q_far (p := ⟨gbz2, 2, none⟩) (Kd.Q_far (p := ⟨gbz2, 1, none⟩) (Kd.Q_far (p := ⟨gbz2, 0, none⟩) (Kd.Q_types (Kd.Q_types HOz1.out BKz2.out (by decide)) BKz3.out (by decide)) (fun _ hk => hk.1.2) (.int .i64 tz0)) (fun _ hk => hk.1.2) (.int .i64 tz2)) (fun _ hk => hk.1.2) (.int .i64 tz4)) (fun _ hk => hk.1.2) (.slice Ao20 tz5.length co20)) (fun _ hk => hk.2) (.int .i64 tz1)) (fun _ hk => hk.2) (.int .i64 tz3)) (fun _ hk => hk.2) (.int .i64 tz6)) (fun _ hk => hk.2) (.slice Ao25 tz7.length co25)) (fun _ h_ => h_.1)) (fun _ h_ => h_.1)))); (case side4 => exact (Kd.Q_reads' HOz1.out).2.1); rintro e w26 ⟨vz0, rfl, ho0, hb⟩; refine ⟨_, rfl, ?_⟩; replace HOz0 := mk (Kd.Q_below (by exact (Kd.Q_mono (Kd.Q_mono (Kd.Q_far (p := ⟨gbz3, 3, none⟩) (Kd.Q_far (p := ⟨gbz3, 2, none⟩) (Kd.Q_far (p := ⟨gbz3, 1, none⟩) (Kd.Q_far (p := ⟨gbz3, 0, none⟩) (Kd.Q_far (p := ⟨gbz2, 3, none⟩) (Kd.Q_far (p := ⟨gbz2, 2, none⟩) (Kd.Q_far (p := ⟨gbz2, 1, none⟩) (Kd.Q_far (p := ⟨gbz2, 0, none⟩) (Kd.Q_types (Kd.Q_types HOz0.out BKz2.out (by decide)) BKz3.out (by decide)) (fun _ hk => hk.1.2) (.int .i64 tz0)) (fun _ hk => hk.1.2) (.int .i64 tz2)) (fun _ hk => hk.1.2) (.int .i64 tz4)) (fun _ hk => hk.1.2) (.slice Ao20 tz5.length co20)) (fun _ hk => hk.2) (.int .i64 tz1)) (fun _ hk => hk.2) (.int .i64 tz3)) (fun _ hk => hk.2) (.int .i64 tz6)) (fun _ hk => hk.2) (.slice Ao25 tz7.length co25)) (fun _ h_ => h_.1)) (fun _ h_ => h_.1))) hb); replace HOz1 := mk (Kd.Q_below (by exact (Kd.Q_mono (Kd.Q_mono (Kd.Q_far (p := ⟨gbz3, 3, none⟩) (Kd.Q_far (p := ⟨gbz3, 2, none⟩) (Kd.Q_far (p := ⟨gbz3, 1, none⟩) (Kd.Q_far (p := ⟨gbz3, 0, none⟩) (Kd.Q_far (p := ⟨gbz2, 3, none⟩) (Kd.Q_far (p := ⟨gbz2, 2, none⟩) (Kd.Q_far (p := ⟨gbz2, 1, none⟩) (Kd.Q_far (p := ⟨gbz2, 0, none⟩) (Kd.Q_types (Kd.Q_types HOz1.out BKz2.out (by decide)) BKz3.out (by decide)) (fun _ hk => hk.1.2) (.int .i64 tz0)) (fun _ hk => hk.1.2) (.int .i64 tz2)) (fun _ hk => hk.1.2) (.int .i64 tz4)) (fun _ hk => hk.1.2) (.slice Ao20 tz5.length co20)) (fun _ hk => hk.2) (.int .i64 tz1)) (fun _ hk => hk.2) (.int .i64 tz3)) (fun _ hk => hk.2) (.int .i64 tz6)) (fun _ hk => hk.2) (.slice Ao25 tz7.length co25)) (fun _ h_ => h_.1)) (fun _ h_ => h_.1))) hb); have HOz2 := mk (Kd.R_lower ho0 (below_size (by repeat (with_reducible first | exact HB.out | refine below_set ?_ GEz0.out | refine below_set ?_ GEz1.out)))); replace BKz0 := mk (blk_below (g := gbz0) (o := .cells #[.int .i64 0, .int .i64 0, .int .i64 0, .slice none 0 0] 27 (0, 0)) (by refine blk_far ?_ NBz6.out _; refine blk_far ?_ NBz6.out _; refine blk_far ?_ NBz6.out _; refine blk_far ?_ NBz6.out _; refine blk_far ?_ NBz8.out _; refine blk_far ?_ NBz8.out _; refine blk_far ?_ NBz8.out _; refine blk_far ?_ NBz8.out _; exact BKz0.out) hb); replace BKz1 := mk (blk_below (g := gbz1) (o := .cells #[.int .i64 0, .int .i64 0, .int .i64 0, .slice none 0 0] 27 (0, 0)) (by refine blk_far ?_ NBz7.out _; refine blk_far ?_ NBz7.out _; refine blk_far ?_ NBz7.out _; refine blk_far ?_ NBz7.out _; refine blk_far ?_ NBz9.out _; refine blk_far ?_ NBz9.out _; refine blk_far ?_ NBz9.out _; refine blk_far ?_ NBz9.out _; exact BKz1.out) hb); replace HI76005 := mk (IsS144.below (show IsS144 w ((((((((w14.setCell ⟨gbz2, 0, none⟩ (.int .i64 tz0)).setCell ⟨gbz2, 1, none⟩ (.int .i64 tz2)).setCell ⟨gbz2, 2, none⟩ (.int .i64 tz4)).setCell ⟨gbz2, 3, none⟩ (.slice Ao20 tz5.length co20)).setCell ⟨gbz3, 0, none⟩ (.int .i64 tz1)).setCell ⟨gbz3, 1, none⟩ (.int .i64 tz3)).setCell ⟨gbz3, 2, none⟩ (.int .i64 tz6)).setCell ⟨gbz3, 3, none⟩ (.slice Ao25 tz7.length co25)) gz0 tz8 tz10 from by repeat (with_reducible first | exact HI76005.out | refine IsS144.far ?_ NBz16.out _ | refine IsS144.far ?_ NBz17.out _)) hb); replace BKz2 := mk (blk_below (g := gbz2) (o := .cells #[.int .i64 tz0, .int .i64 tz2, .int .i64 tz4, .slice Ao20 tz5.length co20] 27 (0, 0)) (by refine blk_far ?_ NBz11.out _; refine blk_far ?_ NBz11.out _; refine blk_far ?_ NBz11.out _; refine blk_far ?_ NBz11.out _; refine blk_put (cs := #[.int .i64 tz0, .int .i64 tz2, .int .i64 tz4, .slice none 0 0]) ?_ 3 _ rfl; refine blk_put (cs := #[.int .i64 tz0, .int .i64 tz2, .int .i64 0, .slice none 0 0]) ?_ 2 _ rfl; refine blk_put (cs := #[.int .i64 tz0, .int .i64 0, .int .i64 0, .slice none 0 0]) ?_ 1 _ rfl; refine blk_put (cs := #[.int .i64 0, .int .i64 0, .int .i64 0, .slice none 0 0]) ?_ 0 _ rfl; exact BKz2.out) hb); replace BKz3 := mk (blk_below (g := gbz3) (o := .cells #[.int .i64 tz1, .int .i64 tz3, .int .i64 tz6, .slice Ao25 tz7.length co25] 27 (0, 0)) (by refine blk_put (cs := #[.int .i64 tz1, .int .i64 tz3, .int .i64 tz6, .slice none 0 0]) ?_ 3 _ rfl; refine blk_put (cs := #[.int .i64 tz1, .int .i64 tz3, .int .i64 0, .slice none 0 0]) ?_ 2 _ rfl; refine blk_put (cs := #[.int .i64 tz1, .int .i64 0, .int .i64 0, .slice none 0 0]) ?_ 1 _ rfl; refine blk_put (cs := #[.int .i64 0, .int .i64 0, .int .i64 0, .slice none 0 0]) ?_ 0 _ rfl; refine blk_far ?_ NBz10.out _; refine blk_far ?_ NBz10.out _; refine blk_far ?_ NBz10.out _; refine blk_far ?_ NBz10.out _; exact BKz3.out) hb); replace HB := mk (below_step (by repeat (with_reducible first | exact HB.out | refine below_set ?_ GEz0.out | refine below_set ?_ GEz1.out)) hb); (try clear hb); (try clear ho0)) | ((with_reducible refine gate_callee (f := 127) rfl ?_); refine goesL_ (some 20) rfl rfl Try.func127 (by kernel_rfl) rfl #[.pointer (some ⟨gz0, 0, none⟩), .int .i64 4] rfl (by (try simp only [bitvec_to_nat]); rfl) ?_; (with_reducible refine (spec_reader_pick.calls k gz0 tz8 tz10 4 tz11 tz12 w _ ?side1 ?side2 A5.out).mono ?_); (case side1 => repeat (with_reducible exact HI76005.out)); (case side2 => repeat (with_reducible exact HB.out)); rintro e w27 ⟨rfl, hi, hb, hk⟩; refine ⟨_, rfl, ?_⟩; replace BKz0 := mk (KeepBut.blk hk (g' := gbz0) (o := .cells #[.int .i64 0, .int .i64 0, .int .i64 0, .slice none 0 0] 27 (0, 0)) BKz0.out NBz12.out (by simp)); replace BKz1 := mk (KeepBut.blk hk (g' := gbz1) (o := .cells #[.int .i64 0, .int .i64 0, .int .i64 0, .slice none 0 0] 27 (0, 0)) BKz1.out NBz13.out (by simp)); replace HOz0 := mk (Kd.Q_mono (Kd.Q_keep (IsS144.apartQ (show IsS144 w _ gz0 tz8 tz10 from by exact HI76005.out) HOz0.out (by decide)) hk (fun _ h => h.2)) (fun _ h => h.1)); replace HOz1 := mk (Kd.Q_mono (Kd.Q_keep (IsS144.apartQ (show IsS144 w _ gz0 tz8 tz10 from by exact HI76005.out) HOz1.out (by decide)) hk (fun _ h => h.2)) (fun _ h => h.1)); replace BKz2 := mk (KeepBut.blk hk (g' := gbz2) (o := .cells #[.int .i64 tz0, .int .i64 tz2, .int .i64 tz4, .slice Ao20 tz5.length co20] 27 (0, 0)) BKz2.out NBz14.out (by simp)); replace BKz3 := mk (KeepBut.blk hk (g' := gbz3) (o := .cells #[.int .i64 tz1, .int .i64 tz3, .int .i64 tz6, .slice Ao25 tz7.length co25] 27 (0, 0)) BKz3.out NBz15.out (by simp)); replace HOz2 := mk (Kd.R_mono (Kd.R_keep (IsS144.apart (show IsS144 w _ gz0 tz8 tz10 from by exact HI76005.out) HOz2.out (by decide)) hk (fun _ h => h.2)) (fun _ h => h.1)); replace HB := mk (hb); replace HI76005 := mk (hi); (try clear hb); (try clear hk); (try clear hi)) | ((with_reducible refine gate_callee (f := 128) rfl ?_); refine goesL_ (some 24) rfl rfl Try.func128 (by kernel_rfl) rfl #[.pointer (some ⟨gz0, 0, none⟩)] rfl (by (try simp only [bitvec_to_nat]); rfl) ?_; (with_reducible refine (spec_anyBox.calls k gz0 tz8 tz12 tz13 tz14 tz15 tz16 tz18 w _ ?side1 ?side2 A7.out).mono ?_); (case side1 => repeat (with_reducible exact HI76005.out)); (case side2 => repeat (with_reducible exact HB.out)); rintro e w28 ⟨rfl, hi, hb, hk⟩; refine ⟨_, rfl, ?_⟩; replace BKz0 := mk (KeepBut.blk hk (g' := gbz0) (o := .cells #[.int .i64 0, .int .i64 0, .int .i64 0, .slice none 0 0] 27 (0, 0)) BKz0.out NBz12.out (by simp)); replace BKz1 := mk (KeepBut.blk hk (g' := gbz1) (o := .cells #[.int .i64 0, .int .i64 0, .int .i64 0, .slice none 0 0] 27 (0, 0)) BKz1.out NBz13.out (by simp)); replace HOz0 := mk (Kd.Q_mono (Kd.Q_keep (IsS144.apartQ (show IsS144 w _ gz0 tz8 tz12 from by exact HI76005.out) HOz0.out (by decide)) hk (fun _ h => h.2)) (fun _ h => h.1)); replace HOz1 := mk (Kd.Q_mono (Kd.Q_keep (IsS144.apartQ (show IsS144 w _ gz0 tz8 tz12 from by exact HI76005.out) HOz1.out (by decide)) hk (fun _ h => h.2)) (fun _ h => h.1)); replace BKz2 := mk (KeepBut.blk hk (g' := gbz2) (o := .cells #[.int .i64 tz0, .int .i64 tz2, .int .i64 tz4, .slice Ao20 tz5.length co20] 27 (0, 0)) BKz2.out NBz14.out (by simp)); replace BKz3 := mk (KeepBut.blk hk (g' := gbz3) (o := .cells #[.int .i64 tz1, .int .i64 tz3, .int .i64 tz6, .slice Ao25 tz7.length co25] 27 (0, 0)) BKz3.out NBz15.out (by simp)); replace HOz2 := mk (Kd.R_mono (Kd.R_keep (IsS144.apart (show IsS144 w _ gz0 tz8 tz12 from by exact HI76005.out) HOz2.out (by decide)) hk (fun _ h => h.2)) (fun _ h => h.1)); replace HB := mk (hb); replace HI76005 := mk (hi); (try clear hb); (try clear hk); (try clear hi)) | ((with_reducible refine gate_builtin (b := .append) (xs := #[.tmp 22, .tmp 25]) rfl ?_); at_builtin; refine Kd.R_append k47 (w0 := w) w.heap.size rfl (.tmp 22) (.tmp 25) 36 47 (.agg #[(.int .i64 0), (.int .i64 0), (.int .i64 0), (.int .i64 0)]) 32 rfl Try.underlying36 info47 rfl (by decide) (by omega) vz0 tz9 (⟨tz13, tz14, tz15, tz16⟩ : S47) [.int .i64 tz13, .int .i64 tz14, .int .i64 tz15, .int .i64 tz16] (fun _ => True) (fun _ => False) rfl rfl ?aP (fun _ hk => hk.elim) ?aF ?aO ?aB ?aS ?aL ?_; (case aP => exact k47_mkM _ _ _ (⟨tz13, tz14, tz15, tz16⟩ : S47)); (case aB => exact HB.out); (case aF => exact (fun _ _ => trivial)); (case aO => exact HOz2.out); (case aS => exact (below_size HB.out)); (case aL => have := LMc8.out; omega); intro vz3 w29 ho hb hg hat; rw [← Nyz0.out] at ho; have n0_ := mk (blk_grown (g := gbz0) (o := .cells #[.int .i64 0, .int .i64 0, .int .i64 0, .slice none 0 0] 27 (0, 0)) BKz0.out hg (Kd.R_ne HOz2.out BKz0.out (by decide))); have n1_ := mk (blk_grown (g := gbz1) (o := .cells #[.int .i64 0, .int .i64 0, .int .i64 0, .slice none 0 0] 27 (0, 0)) BKz1.out hg (Kd.R_ne HOz2.out BKz1.out (by decide))); have n2_ := mk (IsS144.grown HI76005.out hg (IsS144.own_ne HI76005.out HOz2.out (by decide))); have n3_ := mk (Kd.Q_over' HOz0.out (Kd.R_typed HOz2.out) (by decide) hg); have n4_ := mk (Kd.Q_over' HOz1.out (Kd.R_typed HOz2.out) (by decide) hg); have n5_ := mk (blk_grown (g := gbz2) (o := .cells #[.int .i64 tz0, .int .i64 tz2, .int .i64 tz4, .slice Ao20 tz5.length co20] 27 (0, 0)) BKz2.out hg (Kd.R_ne HOz2.out BKz2.out (by decide))); have n6_ := mk (blk_grown (g := gbz3) (o := .cells #[.int .i64 tz1, .int .i64 tz3, .int .i64 tz6, .slice Ao25 tz7.length co25] 27 (0, 0)) BKz3.out hg (Kd.R_ne HOz2.out BKz3.out (by decide))); have n7_ := mk (hb); have n8_ := mk (ho); clear BKz0; clear BKz1; clear HI76005; clear HOz0; clear HOz1; clear BKz2; clear BKz3; clear HB; clear HOz2; have BKz0 := n0_; have BKz1 := n1_; have HI76005 := n2_; have HOz0 := n3_; have HOz1 := n4_; have BKz2 := n5_; have BKz3 := n6_; have HB := n7_; have HOz3 := n8_; clear ho hb hg hat))
   replace HOz0 := mk (Kd.Q_drew HOz0.out)
   replace HOz1 := mk (Kd.Q_drew HOz1.out)
   replace HOz3 := mk (Kd.R_drew HOz3.out)
   replace BKz0 := mk (blk_drew BKz0.out)
   replace BKz1 := mk (blk_drew BKz1.out)
   replace BKz2 := mk (blk_drew BKz2.out)
   replace BKz3 := mk (blk_drew BKz3.out)
   replace HI76005 := mk (IsS144.drew HI76005.out)
   replace HB := mk (below_drew1 HB.out)
   refine start_ (n := 6) (S := fun w' => w'.cell? ⟨gbz2, 0, none⟩ = some (.int .i64 tz0) ∧ w'.cell? ⟨gbz2, 1, none⟩ = some (.int .i64 tz2) ∧ w'.cell? ⟨gbz2, 2, none⟩ = some (.int .i64 tz4) ∧ w'.cell? ⟨gbz2, 3, none⟩ = some (.slice Ao20 tz5.length co20) ∧ w'.cell? ⟨gbz3, 0, none⟩ = some (.int .i64 tz1) ∧ w'.cell? ⟨gbz3, 1, none⟩ = some (.int .i64 tz3) ∧ w'.cell? ⟨gbz3, 2, none⟩ = some (.int .i64 tz6) ∧ w'.cell? ⟨gbz3, 3, none⟩ = some (.slice Ao25 tz7.length co25)) (ds := []) #[false, false, false, false, false, false] (by kernel_rfl) rfl rfl ⟨blk_cell BKz2.out 0, blk_cell BKz2.out 1, blk_cell BKz2.out 2, blk_cell BKz2.out 3, blk_cell BKz3.out 0, blk_cell BKz3.out 1, blk_cell BKz3.out 2, blk_cell BKz3.out 3⟩ (fun hHeld => ?_)
   generalize w29.drew = w30 at HOz0 HOz1 HOz3 BKz0 BKz1 BKz2 BKz3 HI76005 HB hHeld ⊢
   refine pu 2 29 ?_ ?_ rfl rfl (by kernel_rfl) (Or.inl ⟨by rfl, ?_⟩) ?_ ?_
   rotate_left 2
   ·intro w'
    go_simp
    with_reducible rfl
   ·simp only [seval]
    rfl
   refine tk 0 27 ?_ ?_ rfl rfl (by kernel_rfl) (Or.inl ⟨by rfl, ?_⟩) hHeld ?_ ?_
   rotate_left 2
   ·rintro w' ⟨s0, s1, s2, s3, s4, s5, s6, s7⟩
    go_simp
    with_reducible rfl
   ·simp only [seval]
    rfl
   refine tk 1 28 ?_ ?_ rfl rfl (by kernel_rfl) (Or.inl ⟨by rfl, ?_⟩) hHeld ?_ ?_
   rotate_left 2
   ·rintro w' ⟨s0, s1, s2, s3, s4, s5, s6, s7⟩
    go_simp
    with_reducible rfl
   ·simp only [seval]
    rfl
   refine one_ (i := 3) (N := none) #[true, true, true, true, false, false] rfl rfl (by kernel_rfl) (by decide) (fun K hK => ?_)
   have hs31 : w30.cell? ⟨gbz0, 0, none⟩ = some (.int .i64 0) := (blk_cell BKz0.out 0).trans rfl
   have hfs31 := blk_frozen BKz0.out 0
   have hns31_1 := NBz5.out
   have hns31_2 := NBz2.out
   have hns31_3 := NBz0.out
   have hms31_1 := NBz4.out
   have hms31_2 := NBz8.out
   have hms31_3 := NBz6.out
   have hs32 : w30.cell? ⟨gbz0, 1, none⟩ = some (.int .i64 0) := (blk_cell BKz0.out 1).trans rfl
   have hfs32 := blk_frozen BKz0.out 1
   have hns32_1 := NBz5.out
   have hns32_2 := NBz2.out
   have hns32_3 := NBz0.out
   have hms32_1 := NBz4.out
   have hms32_2 := NBz8.out
   have hms32_3 := NBz6.out
   have hs33 : w30.cell? ⟨gbz0, 2, none⟩ = some (.int .i64 0) := (blk_cell BKz0.out 2).trans rfl
   have hfs33 := blk_frozen BKz0.out 2
   have hns33_1 := NBz5.out
   have hns33_2 := NBz2.out
   have hns33_3 := NBz0.out
   have hms33_1 := NBz4.out
   have hms33_2 := NBz8.out
   have hms33_3 := NBz6.out
   have hs34 : w30.cell? ⟨gbz0, 3, none⟩ = some (.slice none 0 0) := (blk_cell BKz0.out 3).trans rfl
   have hfs34 := blk_frozen BKz0.out 3
   have hns34_1 := NBz5.out
   have hns34_2 := NBz2.out
   have hns34_3 := NBz0.out
   have hms34_1 := NBz4.out
   have hms34_2 := NBz8.out
   have hms34_3 := NBz6.out
   refine skip_ (w1 := ?_) (by rfl) rfl ?_ ?_
   rotate_left
   ·go_simp
    rfl
   refine hK.out _ _ ⟨((cell_far (p := ⟨gbz0, _, none⟩) NBz2.out _).trans (((cell_far (p := ⟨gbz0, _, none⟩) NBz2.out _).trans (((cell_far (p := ⟨gbz0, _, none⟩) NBz2.out _).trans (((cell_far (p := ⟨gbz0, _, none⟩) NBz2.out _).trans hHeld.1))))))), ((cell_far (p := ⟨gbz0, _, none⟩) NBz2.out _).trans (((cell_far (p := ⟨gbz0, _, none⟩) NBz2.out _).trans (((cell_far (p := ⟨gbz0, _, none⟩) NBz2.out _).trans (((cell_far (p := ⟨gbz0, _, none⟩) NBz2.out _).trans hHeld.2.1))))))), ((cell_far (p := ⟨gbz0, _, none⟩) NBz2.out _).trans (((cell_far (p := ⟨gbz0, _, none⟩) NBz2.out _).trans (((cell_far (p := ⟨gbz0, _, none⟩) NBz2.out _).trans (((cell_far (p := ⟨gbz0, _, none⟩) NBz2.out _).trans hHeld.2.2.1))))))), ((cell_far (p := ⟨gbz0, _, none⟩) NBz2.out _).trans (((cell_far (p := ⟨gbz0, _, none⟩) NBz2.out _).trans (((cell_far (p := ⟨gbz0, _, none⟩) NBz2.out _).trans (((cell_far (p := ⟨gbz0, _, none⟩) NBz2.out _).trans hHeld.2.2.2.1))))))), ((cell_far (p := ⟨gbz0, _, none⟩) NBz0.out _).trans (((cell_far (p := ⟨gbz0, _, none⟩) NBz0.out _).trans (((cell_far (p := ⟨gbz0, _, none⟩) NBz0.out _).trans (((cell_far (p := ⟨gbz0, _, none⟩) NBz0.out _).trans hHeld.2.2.2.2.1))))))), ((cell_far (p := ⟨gbz0, _, none⟩) NBz0.out _).trans (((cell_far (p := ⟨gbz0, _, none⟩) NBz0.out _).trans (((cell_far (p := ⟨gbz0, _, none⟩) NBz0.out _).trans (((cell_far (p := ⟨gbz0, _, none⟩) NBz0.out _).trans hHeld.2.2.2.2.2.1))))))), ((cell_far (p := ⟨gbz0, _, none⟩) NBz0.out _).trans (((cell_far (p := ⟨gbz0, _, none⟩) NBz0.out _).trans (((cell_far (p := ⟨gbz0, _, none⟩) NBz0.out _).trans (((cell_far (p := ⟨gbz0, _, none⟩) NBz0.out _).trans hHeld.2.2.2.2.2.2.1))))))), ((cell_far (p := ⟨gbz0, _, none⟩) NBz0.out _).trans (((cell_far (p := ⟨gbz0, _, none⟩) NBz0.out _).trans (((cell_far (p := ⟨gbz0, _, none⟩) NBz0.out _).trans (((cell_far (p := ⟨gbz0, _, none⟩) NBz0.out _).trans hHeld.2.2.2.2.2.2.2)))))))⟩ (fun hHeld => ?_)
   clear hK K
   refine one_ (i := 4) (N := none) #[true, true, true, true, true, false] rfl rfl (by kernel_rfl) (by decide) (fun K hK => ?_)
   have hs35 : w30.cell? ⟨gbz1, 0, none⟩ = some (.int .i64 0) := (blk_cell BKz1.out 0).trans rfl
   have hfs35 := blk_frozen BKz1.out 0
   have hns35_0 := NBz4.out
   have hns35_2 := NBz3.out
   have hns35_3 := NBz1.out
   have hms35_0 := NBz5.out
   have hms35_2 := NBz9.out
   have hms35_3 := NBz7.out
   have hs36 : w30.cell? ⟨gbz1, 1, none⟩ = some (.int .i64 0) := (blk_cell BKz1.out 1).trans rfl
   have hfs36 := blk_frozen BKz1.out 1
   have hns36_0 := NBz4.out
   have hns36_2 := NBz3.out
   have hns36_3 := NBz1.out
   have hms36_0 := NBz5.out
   have hms36_2 := NBz9.out
   have hms36_3 := NBz7.out
   have hs37 : w30.cell? ⟨gbz1, 2, none⟩ = some (.int .i64 0) := (blk_cell BKz1.out 2).trans rfl
   have hfs37 := blk_frozen BKz1.out 2
   have hns37_0 := NBz4.out
   have hns37_2 := NBz3.out
   have hns37_3 := NBz1.out
   have hms37_0 := NBz5.out
   have hms37_2 := NBz9.out
   have hms37_3 := NBz7.out
   have hs38 : w30.cell? ⟨gbz1, 3, none⟩ = some (.slice none 0 0) := (blk_cell BKz1.out 3).trans rfl
   have hfs38 := blk_frozen BKz1.out 3
   have hns38_0 := NBz4.out
   have hns38_2 := NBz3.out
   have hns38_3 := NBz1.out
   have hms38_0 := NBz5.out
   have hms38_2 := NBz9.out
   have hms38_3 := NBz7.out
   refine skip_ (w1 := ?_) (by rfl) rfl ?_ ?_
   rotate_left
   ·go_simp
    rfl
   refine hK.out _ _ ⟨((cell_far (p := ⟨gbz1, _, none⟩) NBz3.out _).trans (((cell_far (p := ⟨gbz1, _, none⟩) NBz3.out _).trans (((cell_far (p := ⟨gbz1, _, none⟩) NBz3.out _).trans (((cell_far (p := ⟨gbz1, _, none⟩) NBz3.out _).trans hHeld.1))))))), ((cell_far (p := ⟨gbz1, _, none⟩) NBz3.out _).trans (((cell_far (p := ⟨gbz1, _, none⟩) NBz3.out _).trans (((cell_far (p := ⟨gbz1, _, none⟩) NBz3.out _).trans (((cell_far (p := ⟨gbz1, _, none⟩) NBz3.out _).trans hHeld.2.1))))))), ((cell_far (p := ⟨gbz1, _, none⟩) NBz3.out _).trans (((cell_far (p := ⟨gbz1, _, none⟩) NBz3.out _).trans (((cell_far (p := ⟨gbz1, _, none⟩) NBz3.out _).trans (((cell_far (p := ⟨gbz1, _, none⟩) NBz3.out _).trans hHeld.2.2.1))))))), ((cell_far (p := ⟨gbz1, _, none⟩) NBz3.out _).trans (((cell_far (p := ⟨gbz1, _, none⟩) NBz3.out _).trans (((cell_far (p := ⟨gbz1, _, none⟩) NBz3.out _).trans (((cell_far (p := ⟨gbz1, _, none⟩) NBz3.out _).trans hHeld.2.2.2.1))))))), ((cell_far (p := ⟨gbz1, _, none⟩) NBz1.out _).trans (((cell_far (p := ⟨gbz1, _, none⟩) NBz1.out _).trans (((cell_far (p := ⟨gbz1, _, none⟩) NBz1.out _).trans (((cell_far (p := ⟨gbz1, _, none⟩) NBz1.out _).trans hHeld.2.2.2.2.1))))))), ((cell_far (p := ⟨gbz1, _, none⟩) NBz1.out _).trans (((cell_far (p := ⟨gbz1, _, none⟩) NBz1.out _).trans (((cell_far (p := ⟨gbz1, _, none⟩) NBz1.out _).trans (((cell_far (p := ⟨gbz1, _, none⟩) NBz1.out _).trans hHeld.2.2.2.2.2.1))))))), ((cell_far (p := ⟨gbz1, _, none⟩) NBz1.out _).trans (((cell_far (p := ⟨gbz1, _, none⟩) NBz1.out _).trans (((cell_far (p := ⟨gbz1, _, none⟩) NBz1.out _).trans (((cell_far (p := ⟨gbz1, _, none⟩) NBz1.out _).trans hHeld.2.2.2.2.2.2.1))))))), ((cell_far (p := ⟨gbz1, _, none⟩) NBz1.out _).trans (((cell_far (p := ⟨gbz1, _, none⟩) NBz1.out _).trans (((cell_far (p := ⟨gbz1, _, none⟩) NBz1.out _).trans (((cell_far (p := ⟨gbz1, _, none⟩) NBz1.out _).trans hHeld.2.2.2.2.2.2.2)))))))⟩ (fun hHeld => ?_)
   clear hK K
   refine pu 5 4 ?_ ?_ rfl rfl (by kernel_rfl) (Or.inl ⟨by rfl, ?_⟩) ?_ ?_
   rotate_left 2
   ·intro w'
    go_simp
    with_reducible rfl
   ·simp only [seval]
    rfl
   refine done_ (by kernel_rfl) ?_
   try go_wp2
   refine bodyPost_ret (results_list (rs := [.cell 2 27, .cell 3 27, .tmp 4]) rfl (by simp) (.cell gbz0 27 #[.int .i64 tz0, .int .i64 tz2, .int .i64 tz4, .slice Ao20 tz5.length co20] (0, 0) _ rfl (by refine blk_far ?_ NBz4.out _; refine blk_far ?_ NBz4.out _; refine blk_far ?_ NBz4.out _; refine blk_far ?_ NBz4.out _; refine blk_put (cs := #[.int .i64 tz0, .int .i64 tz2, .int .i64 tz4, .slice none 0 0]) ?_ 3 _ rfl; refine blk_put (cs := #[.int .i64 tz0, .int .i64 tz2, .int .i64 0, .slice none 0 0]) ?_ 2 _ rfl; refine blk_put (cs := #[.int .i64 tz0, .int .i64 0, .int .i64 0, .slice none 0 0]) ?_ 1 _ rfl; refine blk_put (cs := #[.int .i64 0, .int .i64 0, .int .i64 0, .slice none 0 0]) ?_ 0 _ rfl; exact BKz0.out) Try.underlying27 rfl (by kernel_rfl) (.cell gbz1 27 #[.int .i64 tz1, .int .i64 tz3, .int .i64 tz6, .slice Ao25 tz7.length co25] (0, 0) _ rfl (by refine blk_put (cs := #[.int .i64 tz1, .int .i64 tz3, .int .i64 tz6, .slice none 0 0]) ?_ 3 _ rfl; refine blk_put (cs := #[.int .i64 tz1, .int .i64 tz3, .int .i64 0, .slice none 0 0]) ?_ 2 _ rfl; refine blk_put (cs := #[.int .i64 tz1, .int .i64 0, .int .i64 0, .slice none 0 0]) ?_ 1 _ rfl; refine blk_put (cs := #[.int .i64 0, .int .i64 0, .int .i64 0, .slice none 0 0]) ?_ 0 _ rfl; refine blk_far ?_ NBz5.out _; refine blk_far ?_ NBz5.out _; refine blk_far ?_ NBz5.out _; refine blk_far ?_ NBz5.out _; exact BKz1.out) Try.underlying27 rfl (by kernel_rfl) (.tmp .nil)))) rfl ?_
   exact ⟨_, _, _, by rfl, by exact Kd.Q_mono (Kd.Q_far (p := ⟨gbz1, 3, none⟩) (Kd.Q_far (p := ⟨gbz1, 2, none⟩) (Kd.Q_far (p := ⟨gbz1, 1, none⟩) (Kd.Q_far (p := ⟨gbz1, 0, none⟩) (Kd.Q_far (p := ⟨gbz0, 3, none⟩) (Kd.Q_far (p := ⟨gbz0, 2, none⟩) (Kd.Q_far (p := ⟨gbz0, 1, none⟩) (Kd.Q_far (p := ⟨gbz0, 0, none⟩) (Kd.Q_types (Kd.Q_types HOz0.out BKz0.out (by decide)) BKz1.out (by decide)) (fun _ hk => hk.1.2) (.int .i64 tz0)) (fun _ hk => hk.1.2) (.int .i64 tz2)) (fun _ hk => hk.1.2) (.int .i64 tz4)) (fun _ hk => hk.1.2) (.slice Ao20 tz5.length co20)) (fun _ hk => hk.2) (.int .i64 tz1)) (fun _ hk => hk.2) (.int .i64 tz3)) (fun _ hk => hk.2) (.int .i64 tz6)) (fun _ hk => hk.2) (.slice Ao25 tz7.length co25)) (fun _ hk => hk.1.1), by exact Kd.Q_mono (Kd.Q_far (p := ⟨gbz1, 3, none⟩) (Kd.Q_far (p := ⟨gbz1, 2, none⟩) (Kd.Q_far (p := ⟨gbz1, 1, none⟩) (Kd.Q_far (p := ⟨gbz1, 0, none⟩) (Kd.Q_far (p := ⟨gbz0, 3, none⟩) (Kd.Q_far (p := ⟨gbz0, 2, none⟩) (Kd.Q_far (p := ⟨gbz0, 1, none⟩) (Kd.Q_far (p := ⟨gbz0, 0, none⟩) (Kd.Q_types (Kd.Q_types HOz1.out BKz0.out (by decide)) BKz1.out (by decide)) (fun _ hk => hk.1.2) (.int .i64 tz0)) (fun _ hk => hk.1.2) (.int .i64 tz2)) (fun _ hk => hk.1.2) (.int .i64 tz4)) (fun _ hk => hk.1.2) (.slice Ao20 tz5.length co20)) (fun _ hk => hk.2) (.int .i64 tz1)) (fun _ hk => hk.2) (.int .i64 tz3)) (fun _ hk => hk.2) (.int .i64 tz6)) (fun _ hk => hk.2) (.slice Ao25 tz7.length co25)) (fun _ hk => hk.1.1), by exact Kd.R_mono (Kd.R_far (p := ⟨gbz1, 3, none⟩) (Kd.R_far (p := ⟨gbz1, 2, none⟩) (Kd.R_far (p := ⟨gbz1, 1, none⟩) (Kd.R_far (p := ⟨gbz1, 0, none⟩) (Kd.R_far (p := ⟨gbz0, 3, none⟩) (Kd.R_far (p := ⟨gbz0, 2, none⟩) (Kd.R_far (p := ⟨gbz0, 1, none⟩) (Kd.R_far (p := ⟨gbz0, 0, none⟩) (Kd.R_types (Kd.R_types HOz3.out BKz0.out (by decide)) BKz1.out (by decide)) (fun _ hk => hk.1.2) (.int .i64 tz0)) (fun _ hk => hk.1.2) (.int .i64 tz2)) (fun _ hk => hk.1.2) (.int .i64 tz4)) (fun _ hk => hk.1.2) (.slice Ao20 tz5.length co20)) (fun _ hk => hk.2) (.int .i64 tz1)) (fun _ hk => hk.2) (.int .i64 tz3)) (fun _ hk => hk.2) (.int .i64 tz6)) (fun _ hk => hk.2) (.slice Ao25 tz7.length co25)) (fun _ hk => trivial), by repeat (with_reducible first | exact HB.out | refine below_set ?_ GEz2.out | refine below_set ?_ GEz3.out)⟩
  rw [if_neg c8] at H
  exact absurd H (by simp)
 rw [if_neg c6] at H
 have c6b0 : (tz11 == 0) = false := beq_eq_false_iff_ne.mpr c6
 have c6b1 : (tz11 != 0) = true := bne_iff_ne.mpr c6
 simp only [Option.some.injEq, Prod.mk.injEq] at H
 obtain ⟨rfl, rfl, rfl, rfl, rfl, rfl, rfl, rfl, rfl⟩ := H
 go_enter Try.func75, Try.ntmps75
 try go_wp2_with (first | ((with_reducible refine gate_dst (N := 2) rfl ?_); refine box_event (by rfl) (N := 2) (by rfl) (cs := #[.int .i64 0, .int .i64 0, .int .i64 0, .slice none 0 0]) (t := 27) (by go_simp; done) ?_; intro gbz0 hg w39 hbox hb; have BKz0 := mk (hbox); have GEz2 := mk ((by rw [hg]; exact (below_size HB.out) : w.heap.size ≤ gbz0)); replace HB := mk (below_step HB.out hb); clear hb hbox hg) | ((with_reducible refine gate_dst (N := 3) rfl ?_); refine box_event (by rfl) (N := 3) (by rfl) (cs := #[.int .i64 0, .int .i64 0, .int .i64 0, .slice none 0 0]) (t := 27) (by go_simp; done) ?_; intro gbz1 hg w40 hbox hb; have BKz1 := mk (hbox); have GEz3 := mk ((by rw [hg]; exact (below_size HB.out) : w.heap.size ≤ gbz1)); replace HB := mk (below_step HB.out hb); have NBz4 := mk ((by rw [hg]; exact Nat.ne_of_lt (blk_lt BKz0.out) : gbz0 ≠ gbz1)); have NBz5 := mk ((by rw [hg]; exact Nat.ne_of_gt (blk_lt BKz0.out) : gbz1 ≠ gbz0)); replace BKz0 := mk (blk_below BKz0.out hb); clear hb hbox hg) | ((with_reducible refine gate_callee (f := 86) rfl ?_); refine goesL_ (some 10) rfl rfl Try.func86 (by kernel_rfl) rfl #[.slice A0 l0.length c0] rfl (by (try simp only [bitvec_to_nat]); rfl) ?_; (with_reducible refine (spec_newReader.calls _ _ l0 tz8 tz17 w _ ?side1 ?side2 ?side3 A2.out).mono ?_); (case side1 => repeat (with_reducible exact HB.out)); (case side2 => exact HR0.out); (case side3 => exact HC0.out); rintro e w41 ⟨gz0, rfl, hi, hb, hb2⟩; refine ⟨_, rfl, ?_⟩; replace HB := mk (hb); have HI76005 := mk (hi); have NBz12 := mk (Ne.symm (IsS144.ne_blk hi (blk_below BKz0.out hb2) (by decide))); replace BKz0 := mk (blk_below BKz0.out hb2); have NBz13 := mk (Ne.symm (IsS144.ne_blk hi (blk_below BKz1.out hb2) (by decide))); replace BKz1 := mk (blk_below BKz1.out hb2); (try clear hb); (try clear hb2); (try clear hi)) | ((with_reducible refine gate_callee (f := 85) rfl ?_); refine goesL_ (some 13) rfl rfl Try.func85 (by kernel_rfl) rfl #[.pointer (some ⟨gz0, 0, none⟩)] rfl (by (try simp only [bitvec_to_nat]); rfl) ?_; (with_reducible refine (spec_twoImages.calls k gz0 tz8 tz17 tz0 tz2 tz4 tz5 tz1 tz3 tz6 tz7 tz10 w _ ?side1 ?side2 A3.out).mono ?_); (case side1 => repeat (with_reducible exact HI76005.out)); (case side2 => repeat (with_reducible exact HB.out)); rintro e w42 ⟨vz1, vz2, rfl, ho0, ho1, hi, hb, hk⟩; refine ⟨_, rfl, ?_⟩; replace BKz0 := mk (KeepBut.blk hk (g' := gbz0) (o := .cells #[.int .i64 0, .int .i64 0, .int .i64 0, .slice none 0 0] 27 (0, 0)) BKz0.out NBz12.out (by simp)); replace BKz1 := mk (KeepBut.blk hk (g' := gbz1) (o := .cells #[.int .i64 0, .int .i64 0, .int .i64 0, .slice none 0 0] 27 (0, 0)) BKz1.out NBz13.out (by simp)); have HOz0 := mk (Kd.Q_lower ho0 (below_size HB.out)); have HOz1 := mk (Kd.Q_lower ho1 (below_size HB.out)); replace HB := mk (hb); replace HI76005 := mk (hi); (try clear hb); (try clear hk); (try clear hi); (try clear ho0); (try clear ho1)) | ((with_reducible refine gate_dst (N := 6) rfl ?_); refine box_event (by rfl) (N := 6) (by rfl) (cs := #[.int .i64 0, .int .i64 0, .int .i64 0, .slice none 0 0]) (t := 27) (by go_simp; done) ?_; intro gbz2 hg w43 hbox hb; replace HOz0 := mk (Kd.Q_below HOz0.out hb); replace HOz1 := mk (Kd.Q_below HOz1.out hb); have BKz2 := mk (hbox); have GEz0 := mk ((by rw [hg]; exact (below_size HB.out) : w.heap.size ≤ gbz2)); replace HB := mk (below_step HB.out hb); have NBz8 := mk ((by rw [hg]; exact Nat.ne_of_lt (blk_lt BKz0.out) : gbz0 ≠ gbz2)); have NBz2 := mk ((by rw [hg]; exact Nat.ne_of_gt (blk_lt BKz0.out) : gbz2 ≠ gbz0)); replace BKz0 := mk (blk_below BKz0.out hb); have NBz9 := mk ((by rw [hg]; exact Nat.ne_of_lt (blk_lt BKz1.out) : gbz1 ≠ gbz2)); have NBz3 := mk ((by rw [hg]; exact Nat.ne_of_gt (blk_lt BKz1.out) : gbz2 ≠ gbz1)); replace BKz1 := mk (blk_below BKz1.out hb); have NBz16 := mk ((by rw [hg]; exact Nat.ne_of_lt (IsS144.lt (show IsS144 w _ gz0 tz8 tz10 from by exact HI76005.out)) : gz0 ≠ gbz2)); have NBz14 := mk ((by rw [hg]; exact Nat.ne_of_gt (IsS144.lt (show IsS144 w _ gz0 tz8 tz10 from by exact HI76005.out)) : gbz2 ≠ gz0)); replace HI76005 := mk (IsS144.below HI76005.out hb); clear hb hbox hg) | ((with_reducible refine gate_dst (N := 7) rfl ?_); refine box_event (by rfl) (N := 7) (by rfl) (cs := #[.int .i64 0, .int .i64 0, .int .i64 0, .slice none 0 0]) (t := 27) (by go_simp; done) ?_; intro gbz3 hg w44 hbox hb; replace HOz0 := mk (Kd.Q_below HOz0.out hb); replace HOz1 := mk (Kd.Q_below HOz1.out hb); have BKz3 := mk (hbox); have GEz1 := mk ((by rw [hg]; exact (below_size HB.out) : w.heap.size ≤ gbz3)); replace HB := mk (below_step HB.out hb); have NBz6 := mk ((by rw [hg]; exact Nat.ne_of_lt (blk_lt BKz0.out) : gbz0 ≠ gbz3)); have NBz0 := mk ((by rw [hg]; exact Nat.ne_of_gt (blk_lt BKz0.out) : gbz3 ≠ gbz0)); replace BKz0 := mk (blk_below BKz0.out hb); have NBz7 := mk ((by rw [hg]; exact Nat.ne_of_lt (blk_lt BKz1.out) : gbz1 ≠ gbz3)); have NBz1 := mk ((by rw [hg]; exact Nat.ne_of_gt (blk_lt BKz1.out) : gbz3 ≠ gbz1)); replace BKz1 := mk (blk_below BKz1.out hb); have NBz11 := mk ((by rw [hg]; exact Nat.ne_of_lt (blk_lt BKz2.out) : gbz2 ≠ gbz3)); have NBz10 := mk ((by rw [hg]; exact Nat.ne_of_gt (blk_lt BKz2.out) : gbz3 ≠ gbz2)); replace BKz2 := mk (blk_below BKz2.out hb); have NBz17 := mk ((by rw [hg]; exact Nat.ne_of_lt (IsS144.lt (show IsS144 w _ gz0 tz8 tz10 from by exact HI76005.out)) : gz0 ≠ gbz3)); have NBz15 := mk ((by rw [hg]; exact Nat.ne_of_gt (IsS144.lt (show IsS144 w _ gz0 tz8 tz10 from by exact HI76005.out)) : gbz3 ≠ gz0)); replace HI76005 := mk (IsS144.below HI76005.out hb); clear hb hbox hg; have hnc47 := NBz10.out; have hnb48 := NBz14.out; have hnc48 := NBz16.out; have hcz49_0 : w44.cell? ⟨gbz2, 0, none⟩ = some (.int .i64 0) := (blk_cell BKz2.out 0).trans rfl; have hcz49_1 : w44.cell? ⟨gbz2, 1, none⟩ = some (.int .i64 0) := (blk_cell BKz2.out 1).trans rfl; have hcz49_2 : w44.cell? ⟨gbz2, 2, none⟩ = some (.int .i64 0) := (blk_cell BKz2.out 2).trans rfl; have hcz49_3 : w44.cell? ⟨gbz2, 3, none⟩ = some (.slice none 0 0) := (blk_cell BKz2.out 3).trans rfl; have hfz49_0 := blk_frozen BKz2.out 0; have hfz49_1 := blk_frozen BKz2.out 1; have hfz49_2 := blk_frozen BKz2.out 2; have hfz49_3 := blk_frozen BKz2.out 3; obtain ⟨Ao50, co50, eo50, _⟩ := Kd.Q_slice HOz0.out; subst eo50; have hnb51 := NBz0.out; have hnc51 := NBz6.out; have hnb52 := NBz1.out; have hnc52 := NBz7.out; have hnb53 := NBz15.out; have hnc53 := NBz17.out; have hcz54_0 : w44.cell? ⟨gbz3, 0, none⟩ = some (.int .i64 0) := (blk_cell BKz3.out 0).trans rfl; have hcz54_1 : w44.cell? ⟨gbz3, 1, none⟩ = some (.int .i64 0) := (blk_cell BKz3.out 1).trans rfl; have hcz54_2 : w44.cell? ⟨gbz3, 2, none⟩ = some (.int .i64 0) := (blk_cell BKz3.out 2).trans rfl; have hcz54_3 : w44.cell? ⟨gbz3, 3, none⟩ = some (.slice none 0 0) := (blk_cell BKz3.out 3).trans rfl; have hfz54_0 := blk_frozen BKz3.out 0; have hfz54_1 := blk_frozen BKz3.out 1; have hfz54_2 := blk_frozen BKz3.out 2; have hfz54_3 := blk_frozen BKz3.out 3; obtain ⟨Ao55, co55, eo55, _⟩ := Kd.Q_slice HOz1.out; subst eo55) | ((with_reducible refine gate_callee (f := 126) rfl ?_); refine goesL_ (some 18) rfl rfl Try.func126 (by kernel_rfl) rfl #[.agg #[.int .i64 tz0, .int .i64 tz2, .int .i64 tz4, .slice Ao50 tz5.length co50], .agg #[.int .i64 tz1, .int .i64 tz3, .int .i64 tz6, .slice Ao55 tz7.length co55]] rfl (by (try simp only [bitvec_to_nat]); rfl) ?_; (with_reducible refine (spec_ChangedBoxes.calls k tz0 tz2 tz4 _ _ tz5 tz1 tz3 tz6 _ _ tz7 tz9 _ ?side1 ?side2 ?side3 ?side4 A4.out).mono ?_); (case side1 => refine (Kd.Q_reads' (e := 3) (base := w.heap.size) (ok := fun k_ => some k_ ≠ (.slice Ao55 tz7.length co55 : Value).ownBlock) (n := tz5.length) (c := co50) ?_).2.2; exact (by exact (Kd.Q_mono (Kd.Q_mono (Kd.Q_far (p := ⟨gbz3, 3, none⟩) (Kd.Q_far (p := ⟨gbz3, 2, none⟩) (Kd.Q_far (p := ⟨gbz3, 1, none⟩) (Kd.Q_far (p := ⟨gbz3, 0, none⟩) (Kd.Q_far (p := ⟨gbz2, 3, none⟩) (Kd.Q_far (p := ⟨gbz2, 2, none⟩) (Kd.Q_far (p := ⟨gbz2, 1, none⟩) (Kd.Q_far (p := ⟨gbz2, 0, none⟩) (Kd.Q_types (Kd.Q_types HOz0.out BKz2.out (by decide)) BKz3.out (by decide)) (fun _ hk => hk.1.2) (.int .i64 tz0)) (fun _ hk => hk.1.2) (.int .i64 tz2)) (fun _ hk => hk.1.2) (.int .i64 tz4)) (fun _ hk => hk.1.2) (.slice Ao50 tz5.length co50)) (fun _ hk => hk.2) (.int .i64 tz1)) (fun _ hk => hk.2) (.int .i64 tz3)) (fun _ hk => hk.2) (.int .i64 tz6)) (fun _ hk => hk.2) (.slice Ao55 tz7.length co55)) (fun _ h_ => h_.1)) (fun _ h_ => h_.1)))); (case side2 => exact (Kd.Q_reads' HOz0.out).2.1); (case side3 => refine (Kd.Q_reads' (e := 3) (base := w.heap.size) (ok := fun k_ => some k_ ≠ (.slice Ao50 tz5.length co50 : Value).ownBlock) (n := tz7.length) (c := co55) ?_).2.2; exact (by exact (Kd.Q_mono (Kd.Q_mono (Kd.Q_far (p := ⟨gbz3, 3, none⟩) (Kd.Q_far (p := ⟨gbz3, 2, none⟩) (Kd.Q_far (p := ⟨gbz3, 1, none⟩) (Kd.Q_far (p := ⟨gbz3, 0, none⟩) (Kd.Q_far (p := ⟨gbz2, 3, none⟩) (Kd.Q_far (p := ⟨gbz2, 2, none⟩) (Kd.Q_far (p := ⟨gbz2, 1, none⟩) (Kd.Q_far (p := ⟨gbz2, 0, none⟩) (Kd.Q_types (Kd.Q_types HOz1.out BKz2.out (by decide)) BKz3.out (by decide)) (fun _ hk => hk.1.2) (.int .i64 tz0)) (fun _ hk => hk.1.2) (.int .i64 tz2)) (fun _ hk => hk.1.2) (.int .i64 tz4)) (fun _ hk => hk.1.2) (.slice Ao50 tz5.length co50)) (fun _ hk => hk.2) (.int .i64 tz1)) (fun _ hk => hk.2) (.int .i64 tz3)) (fun _ hk => hk.2) (.int .i64 tz6)) (fun _ hk => hk.2) (.slice Ao55 tz7.length co55)) (fun _ h_ => h_.1)) (fun _ h_ => h_.1)))); (case side4 => exact (Kd.Q_reads' HOz1.out).2.1); rintro e w56 ⟨vz0, rfl, ho0, hb⟩; refine ⟨_, rfl, ?_⟩; replace HOz0 := mk (Kd.Q_below (by exact (Kd.Q_mono (Kd.Q_mono (Kd.Q_far (p := ⟨gbz3, 3, none⟩) (Kd.Q_far (p := ⟨gbz3, 2, none⟩) (Kd.Q_far (p := ⟨gbz3, 1, none⟩) (Kd.Q_far (p := ⟨gbz3, 0, none⟩) (Kd.Q_far (p := ⟨gbz2, 3, none⟩) (Kd.Q_far (p := ⟨gbz2, 2, none⟩) (Kd.Q_far (p := ⟨gbz2, 1, none⟩) (Kd.Q_far (p := ⟨gbz2, 0, none⟩) (Kd.Q_types (Kd.Q_types HOz0.out BKz2.out (by decide)) BKz3.out (by decide)) (fun _ hk => hk.1.2) (.int .i64 tz0)) (fun _ hk => hk.1.2) (.int .i64 tz2)) (fun _ hk => hk.1.2) (.int .i64 tz4)) (fun _ hk => hk.1.2) (.slice Ao50 tz5.length co50)) (fun _ hk => hk.2) (.int .i64 tz1)) (fun _ hk => hk.2) (.int .i64 tz3)) (fun _ hk => hk.2) (.int .i64 tz6)) (fun _ hk => hk.2) (.slice Ao55 tz7.length co55)) (fun _ h_ => h_.1)) (fun _ h_ => h_.1))) hb); replace HOz1 := mk (Kd.Q_below (by exact (Kd.Q_mono (Kd.Q_mono (Kd.Q_far (p := ⟨gbz3, 3, none⟩) (Kd.Q_far (p := ⟨gbz3, 2, none⟩) (Kd.Q_far (p := ⟨gbz3, 1, none⟩) (Kd.Q_far (p := ⟨gbz3, 0, none⟩) (Kd.Q_far (p := ⟨gbz2, 3, none⟩) (Kd.Q_far (p := ⟨gbz2, 2, none⟩) (Kd.Q_far (p := ⟨gbz2, 1, none⟩) (Kd.Q_far (p := ⟨gbz2, 0, none⟩) (Kd.Q_types (Kd.Q_types HOz1.out BKz2.out (by decide)) BKz3.out (by decide)) (fun _ hk => hk.1.2) (.int .i64 tz0)) (fun _ hk => hk.1.2) (.int .i64 tz2)) (fun _ hk => hk.1.2) (.int .i64 tz4)) (fun _ hk => hk.1.2) (.slice Ao50 tz5.length co50)) (fun _ hk => hk.2) (.int .i64 tz1)) (fun _ hk => hk.2) (.int .i64 tz3)) (fun _ hk => hk.2) (.int .i64 tz6)) (fun _ hk => hk.2) (.slice Ao55 tz7.length co55)) (fun _ h_ => h_.1)) (fun _ h_ => h_.1))) hb); have HOz2 := mk (Kd.R_lower ho0 (below_size (by repeat (with_reducible first | exact HB.out | refine below_set ?_ GEz0.out | refine below_set ?_ GEz1.out)))); replace BKz0 := mk (blk_below (g := gbz0) (o := .cells #[.int .i64 0, .int .i64 0, .int .i64 0, .slice none 0 0] 27 (0, 0)) (by refine blk_far ?_ NBz6.out _; refine blk_far ?_ NBz6.out _; refine blk_far ?_ NBz6.out _; refine blk_far ?_ NBz6.out _; refine blk_far ?_ NBz8.out _; refine blk_far ?_ NBz8.out _; refine blk_far ?_ NBz8.out _; refine blk_far ?_ NBz8.out _; exact BKz0.out) hb); replace BKz1 := mk (blk_below (g := gbz1) (o := .cells #[.int .i64 0, .int .i64 0, .int .i64 0, .slice none 0 0] 27 (0, 0)) (by refine blk_far ?_ NBz7.out _; refine blk_far ?_ NBz7.out _; refine blk_far ?_ NBz7.out _; refine blk_far ?_ NBz7.out _; refine blk_far ?_ NBz9.out _; refine blk_far ?_ NBz9.out _; refine blk_far ?_ NBz9.out _; refine blk_far ?_ NBz9.out _; exact BKz1.out) hb); replace HI76005 := mk (IsS144.below (show IsS144 w ((((((((w44.setCell ⟨gbz2, 0, none⟩ (.int .i64 tz0)).setCell ⟨gbz2, 1, none⟩ (.int .i64 tz2)).setCell ⟨gbz2, 2, none⟩ (.int .i64 tz4)).setCell ⟨gbz2, 3, none⟩ (.slice Ao50 tz5.length co50)).setCell ⟨gbz3, 0, none⟩ (.int .i64 tz1)).setCell ⟨gbz3, 1, none⟩ (.int .i64 tz3)).setCell ⟨gbz3, 2, none⟩ (.int .i64 tz6)).setCell ⟨gbz3, 3, none⟩ (.slice Ao55 tz7.length co55)) gz0 tz8 tz10 from by repeat (with_reducible first | exact HI76005.out | refine IsS144.far ?_ NBz16.out _ | refine IsS144.far ?_ NBz17.out _)) hb); replace BKz2 := mk (blk_below (g := gbz2) (o := .cells #[.int .i64 tz0, .int .i64 tz2, .int .i64 tz4, .slice Ao50 tz5.length co50] 27 (0, 0)) (by refine blk_far ?_ NBz11.out _; refine blk_far ?_ NBz11.out _; refine blk_far ?_ NBz11.out _; refine blk_far ?_ NBz11.out _; refine blk_put (cs := #[.int .i64 tz0, .int .i64 tz2, .int .i64 tz4, .slice none 0 0]) ?_ 3 _ rfl; refine blk_put (cs := #[.int .i64 tz0, .int .i64 tz2, .int .i64 0, .slice none 0 0]) ?_ 2 _ rfl; refine blk_put (cs := #[.int .i64 tz0, .int .i64 0, .int .i64 0, .slice none 0 0]) ?_ 1 _ rfl; refine blk_put (cs := #[.int .i64 0, .int .i64 0, .int .i64 0, .slice none 0 0]) ?_ 0 _ rfl; exact BKz2.out) hb); replace BKz3 := mk (blk_below (g := gbz3) (o := .cells #[.int .i64 tz1, .int .i64 tz3, .int .i64 tz6, .slice Ao55 tz7.length co55] 27 (0, 0)) (by refine blk_put (cs := #[.int .i64 tz1, .int .i64 tz3, .int .i64 tz6, .slice none 0 0]) ?_ 3 _ rfl; refine blk_put (cs := #[.int .i64 tz1, .int .i64 tz3, .int .i64 0, .slice none 0 0]) ?_ 2 _ rfl; refine blk_put (cs := #[.int .i64 tz1, .int .i64 0, .int .i64 0, .slice none 0 0]) ?_ 1 _ rfl; refine blk_put (cs := #[.int .i64 0, .int .i64 0, .int .i64 0, .slice none 0 0]) ?_ 0 _ rfl; refine blk_far ?_ NBz10.out _; refine blk_far ?_ NBz10.out _; refine blk_far ?_ NBz10.out _; refine blk_far ?_ NBz10.out _; exact BKz3.out) hb); replace HB := mk (below_step (by repeat (with_reducible first | exact HB.out | refine below_set ?_ GEz0.out | refine below_set ?_ GEz1.out)) hb); (try clear hb); (try clear ho0)) | ((with_reducible refine gate_callee (f := 127) rfl ?_); refine goesL_ (some 20) rfl rfl Try.func127 (by kernel_rfl) rfl #[.pointer (some ⟨gz0, 0, none⟩), .int .i64 4] rfl (by (try simp only [bitvec_to_nat]); rfl) ?_; (with_reducible refine (spec_reader_pick.calls k gz0 tz8 tz10 4 tz11 tz12 w _ ?side1 ?side2 A5.out).mono ?_); (case side1 => repeat (with_reducible exact HI76005.out)); (case side2 => repeat (with_reducible exact HB.out)); rintro e w57 ⟨rfl, hi, hb, hk⟩; refine ⟨_, rfl, ?_⟩; replace BKz0 := mk (KeepBut.blk hk (g' := gbz0) (o := .cells #[.int .i64 0, .int .i64 0, .int .i64 0, .slice none 0 0] 27 (0, 0)) BKz0.out NBz12.out (by simp)); replace BKz1 := mk (KeepBut.blk hk (g' := gbz1) (o := .cells #[.int .i64 0, .int .i64 0, .int .i64 0, .slice none 0 0] 27 (0, 0)) BKz1.out NBz13.out (by simp)); replace HOz0 := mk (Kd.Q_mono (Kd.Q_keep (IsS144.apartQ (show IsS144 w _ gz0 tz8 tz10 from by exact HI76005.out) HOz0.out (by decide)) hk (fun _ h => h.2)) (fun _ h => h.1)); replace HOz1 := mk (Kd.Q_mono (Kd.Q_keep (IsS144.apartQ (show IsS144 w _ gz0 tz8 tz10 from by exact HI76005.out) HOz1.out (by decide)) hk (fun _ h => h.2)) (fun _ h => h.1)); replace BKz2 := mk (KeepBut.blk hk (g' := gbz2) (o := .cells #[.int .i64 tz0, .int .i64 tz2, .int .i64 tz4, .slice Ao50 tz5.length co50] 27 (0, 0)) BKz2.out NBz14.out (by simp)); replace BKz3 := mk (KeepBut.blk hk (g' := gbz3) (o := .cells #[.int .i64 tz1, .int .i64 tz3, .int .i64 tz6, .slice Ao55 tz7.length co55] 27 (0, 0)) BKz3.out NBz15.out (by simp)); replace HOz2 := mk (Kd.R_mono (Kd.R_keep (IsS144.apart (show IsS144 w _ gz0 tz8 tz10 from by exact HI76005.out) HOz2.out (by decide)) hk (fun _ h => h.2)) (fun _ h => h.1)); replace HB := mk (hb); replace HI76005 := mk (hi); (try clear hb); (try clear hk); (try clear hi)))
 replace HOz0 := mk (Kd.Q_drew HOz0.out)
 replace HOz1 := mk (Kd.Q_drew HOz1.out)
 replace HOz2 := mk (Kd.R_drew HOz2.out)
 replace BKz0 := mk (blk_drew BKz0.out)
 replace BKz1 := mk (blk_drew BKz1.out)
 replace BKz2 := mk (blk_drew BKz2.out)
 replace BKz3 := mk (blk_drew BKz3.out)
 replace HI76005 := mk (IsS144.drew HI76005.out)
 replace HB := mk (below_drew1 HB.out)
 refine start_ (n := 6) (S := fun w' => w'.cell? ⟨gbz2, 0, none⟩ = some (.int .i64 tz0) ∧ w'.cell? ⟨gbz2, 1, none⟩ = some (.int .i64 tz2) ∧ w'.cell? ⟨gbz2, 2, none⟩ = some (.int .i64 tz4) ∧ w'.cell? ⟨gbz2, 3, none⟩ = some (.slice Ao50 tz5.length co50) ∧ w'.cell? ⟨gbz3, 0, none⟩ = some (.int .i64 tz1) ∧ w'.cell? ⟨gbz3, 1, none⟩ = some (.int .i64 tz3) ∧ w'.cell? ⟨gbz3, 2, none⟩ = some (.int .i64 tz6) ∧ w'.cell? ⟨gbz3, 3, none⟩ = some (.slice Ao55 tz7.length co55)) (ds := []) #[false, false, false, false, false, false] (by kernel_rfl) rfl rfl ⟨blk_cell BKz2.out 0, blk_cell BKz2.out 1, blk_cell BKz2.out 2, blk_cell BKz2.out 3, blk_cell BKz3.out 0, blk_cell BKz3.out 1, blk_cell BKz3.out 2, blk_cell BKz3.out 3⟩ (fun hHeld => ?_)
 generalize w57.drew = w58 at HOz0 HOz1 HOz2 BKz0 BKz1 BKz2 BKz3 HI76005 HB hHeld ⊢
 refine pu 2 29 ?_ ?_ rfl rfl (by kernel_rfl) (Or.inl ⟨by rfl, ?_⟩) ?_ ?_
 rotate_left 2
 ·intro w'
  go_simp
  with_reducible rfl
 ·simp only [seval]
  rfl
 refine tk 0 27 ?_ ?_ rfl rfl (by kernel_rfl) (Or.inl ⟨by rfl, ?_⟩) hHeld ?_ ?_
 rotate_left 2
 ·rintro w' ⟨s0, s1, s2, s3, s4, s5, s6, s7⟩
  go_simp
  with_reducible rfl
 ·simp only [seval]
  rfl
 refine tk 1 28 ?_ ?_ rfl rfl (by kernel_rfl) (Or.inl ⟨by rfl, ?_⟩) hHeld ?_ ?_
 rotate_left 2
 ·rintro w' ⟨s0, s1, s2, s3, s4, s5, s6, s7⟩
  go_simp
  with_reducible rfl
 ·simp only [seval]
  rfl
 refine one_ (i := 3) (N := none) #[true, true, true, true, false, false] rfl rfl (by kernel_rfl) (by decide) (fun K hK => ?_)
 have hs59 : w58.cell? ⟨gbz0, 0, none⟩ = some (.int .i64 0) := (blk_cell BKz0.out 0).trans rfl
 have hfs59 := blk_frozen BKz0.out 0
 have hns59_1 := NBz5.out
 have hns59_2 := NBz2.out
 have hns59_3 := NBz0.out
 have hms59_1 := NBz4.out
 have hms59_2 := NBz8.out
 have hms59_3 := NBz6.out
 have hs60 : w58.cell? ⟨gbz0, 1, none⟩ = some (.int .i64 0) := (blk_cell BKz0.out 1).trans rfl
 have hfs60 := blk_frozen BKz0.out 1
 have hns60_1 := NBz5.out
 have hns60_2 := NBz2.out
 have hns60_3 := NBz0.out
 have hms60_1 := NBz4.out
 have hms60_2 := NBz8.out
 have hms60_3 := NBz6.out
 have hs61 : w58.cell? ⟨gbz0, 2, none⟩ = some (.int .i64 0) := (blk_cell BKz0.out 2).trans rfl
 have hfs61 := blk_frozen BKz0.out 2
 have hns61_1 := NBz5.out
 have hns61_2 := NBz2.out
 have hns61_3 := NBz0.out
 have hms61_1 := NBz4.out
 have hms61_2 := NBz8.out
 have hms61_3 := NBz6.out
 have hs62 : w58.cell? ⟨gbz0, 3, none⟩ = some (.slice none 0 0) := (blk_cell BKz0.out 3).trans rfl
 have hfs62 := blk_frozen BKz0.out 3
 have hns62_1 := NBz5.out
 have hns62_2 := NBz2.out
 have hns62_3 := NBz0.out
 have hms62_1 := NBz4.out
 have hms62_2 := NBz8.out
 have hms62_3 := NBz6.out
 refine skip_ (w1 := ?_) (by rfl) rfl ?_ ?_
 rotate_left
 ·go_simp
  rfl
 refine hK.out _ _ ⟨((cell_far (p := ⟨gbz0, _, none⟩) NBz2.out _).trans (((cell_far (p := ⟨gbz0, _, none⟩) NBz2.out _).trans (((cell_far (p := ⟨gbz0, _, none⟩) NBz2.out _).trans (((cell_far (p := ⟨gbz0, _, none⟩) NBz2.out _).trans hHeld.1))))))), ((cell_far (p := ⟨gbz0, _, none⟩) NBz2.out _).trans (((cell_far (p := ⟨gbz0, _, none⟩) NBz2.out _).trans (((cell_far (p := ⟨gbz0, _, none⟩) NBz2.out _).trans (((cell_far (p := ⟨gbz0, _, none⟩) NBz2.out _).trans hHeld.2.1))))))), ((cell_far (p := ⟨gbz0, _, none⟩) NBz2.out _).trans (((cell_far (p := ⟨gbz0, _, none⟩) NBz2.out _).trans (((cell_far (p := ⟨gbz0, _, none⟩) NBz2.out _).trans (((cell_far (p := ⟨gbz0, _, none⟩) NBz2.out _).trans hHeld.2.2.1))))))), ((cell_far (p := ⟨gbz0, _, none⟩) NBz2.out _).trans (((cell_far (p := ⟨gbz0, _, none⟩) NBz2.out _).trans (((cell_far (p := ⟨gbz0, _, none⟩) NBz2.out _).trans (((cell_far (p := ⟨gbz0, _, none⟩) NBz2.out _).trans hHeld.2.2.2.1))))))), ((cell_far (p := ⟨gbz0, _, none⟩) NBz0.out _).trans (((cell_far (p := ⟨gbz0, _, none⟩) NBz0.out _).trans (((cell_far (p := ⟨gbz0, _, none⟩) NBz0.out _).trans (((cell_far (p := ⟨gbz0, _, none⟩) NBz0.out _).trans hHeld.2.2.2.2.1))))))), ((cell_far (p := ⟨gbz0, _, none⟩) NBz0.out _).trans (((cell_far (p := ⟨gbz0, _, none⟩) NBz0.out _).trans (((cell_far (p := ⟨gbz0, _, none⟩) NBz0.out _).trans (((cell_far (p := ⟨gbz0, _, none⟩) NBz0.out _).trans hHeld.2.2.2.2.2.1))))))), ((cell_far (p := ⟨gbz0, _, none⟩) NBz0.out _).trans (((cell_far (p := ⟨gbz0, _, none⟩) NBz0.out _).trans (((cell_far (p := ⟨gbz0, _, none⟩) NBz0.out _).trans (((cell_far (p := ⟨gbz0, _, none⟩) NBz0.out _).trans hHeld.2.2.2.2.2.2.1))))))), ((cell_far (p := ⟨gbz0, _, none⟩) NBz0.out _).trans (((cell_far (p := ⟨gbz0, _, none⟩) NBz0.out _).trans (((cell_far (p := ⟨gbz0, _, none⟩) NBz0.out _).trans (((cell_far (p := ⟨gbz0, _, none⟩) NBz0.out _).trans hHeld.2.2.2.2.2.2.2)))))))⟩ (fun hHeld => ?_)
 clear hK K
 refine one_ (i := 4) (N := none) #[true, true, true, true, true, false] rfl rfl (by kernel_rfl) (by decide) (fun K hK => ?_)
 have hs63 : w58.cell? ⟨gbz1, 0, none⟩ = some (.int .i64 0) := (blk_cell BKz1.out 0).trans rfl
 have hfs63 := blk_frozen BKz1.out 0
 have hns63_0 := NBz4.out
 have hns63_2 := NBz3.out
 have hns63_3 := NBz1.out
 have hms63_0 := NBz5.out
 have hms63_2 := NBz9.out
 have hms63_3 := NBz7.out
 have hs64 : w58.cell? ⟨gbz1, 1, none⟩ = some (.int .i64 0) := (blk_cell BKz1.out 1).trans rfl
 have hfs64 := blk_frozen BKz1.out 1
 have hns64_0 := NBz4.out
 have hns64_2 := NBz3.out
 have hns64_3 := NBz1.out
 have hms64_0 := NBz5.out
 have hms64_2 := NBz9.out
 have hms64_3 := NBz7.out
 have hs65 : w58.cell? ⟨gbz1, 2, none⟩ = some (.int .i64 0) := (blk_cell BKz1.out 2).trans rfl
 have hfs65 := blk_frozen BKz1.out 2
 have hns65_0 := NBz4.out
 have hns65_2 := NBz3.out
 have hns65_3 := NBz1.out
 have hms65_0 := NBz5.out
 have hms65_2 := NBz9.out
 have hms65_3 := NBz7.out
 have hs66 : w58.cell? ⟨gbz1, 3, none⟩ = some (.slice none 0 0) := (blk_cell BKz1.out 3).trans rfl
 have hfs66 := blk_frozen BKz1.out 3
 have hns66_0 := NBz4.out
 have hns66_2 := NBz3.out
 have hns66_3 := NBz1.out
 have hms66_0 := NBz5.out
 have hms66_2 := NBz9.out
 have hms66_3 := NBz7.out
 refine skip_ (w1 := ?_) (by rfl) rfl ?_ ?_
 rotate_left
 ·go_simp
  rfl
 refine hK.out _ _ ⟨((cell_far (p := ⟨gbz1, _, none⟩) NBz3.out _).trans (((cell_far (p := ⟨gbz1, _, none⟩) NBz3.out _).trans (((cell_far (p := ⟨gbz1, _, none⟩) NBz3.out _).trans (((cell_far (p := ⟨gbz1, _, none⟩) NBz3.out _).trans hHeld.1))))))), ((cell_far (p := ⟨gbz1, _, none⟩) NBz3.out _).trans (((cell_far (p := ⟨gbz1, _, none⟩) NBz3.out _).trans (((cell_far (p := ⟨gbz1, _, none⟩) NBz3.out _).trans (((cell_far (p := ⟨gbz1, _, none⟩) NBz3.out _).trans hHeld.2.1))))))), ((cell_far (p := ⟨gbz1, _, none⟩) NBz3.out _).trans (((cell_far (p := ⟨gbz1, _, none⟩) NBz3.out _).trans (((cell_far (p := ⟨gbz1, _, none⟩) NBz3.out _).trans (((cell_far (p := ⟨gbz1, _, none⟩) NBz3.out _).trans hHeld.2.2.1))))))), ((cell_far (p := ⟨gbz1, _, none⟩) NBz3.out _).trans (((cell_far (p := ⟨gbz1, _, none⟩) NBz3.out _).trans (((cell_far (p := ⟨gbz1, _, none⟩) NBz3.out _).trans (((cell_far (p := ⟨gbz1, _, none⟩) NBz3.out _).trans hHeld.2.2.2.1))))))), ((cell_far (p := ⟨gbz1, _, none⟩) NBz1.out _).trans (((cell_far (p := ⟨gbz1, _, none⟩) NBz1.out _).trans (((cell_far (p := ⟨gbz1, _, none⟩) NBz1.out _).trans (((cell_far (p := ⟨gbz1, _, none⟩) NBz1.out _).trans hHeld.2.2.2.2.1))))))), ((cell_far (p := ⟨gbz1, _, none⟩) NBz1.out _).trans (((cell_far (p := ⟨gbz1, _, none⟩) NBz1.out _).trans (((cell_far (p := ⟨gbz1, _, none⟩) NBz1.out _).trans (((cell_far (p := ⟨gbz1, _, none⟩) NBz1.out _).trans hHeld.2.2.2.2.2.1))))))), ((cell_far (p := ⟨gbz1, _, none⟩) NBz1.out _).trans (((cell_far (p := ⟨gbz1, _, none⟩) NBz1.out _).trans (((cell_far (p := ⟨gbz1, _, none⟩) NBz1.out _).trans (((cell_far (p := ⟨gbz1, _, none⟩) NBz1.out _).trans hHeld.2.2.2.2.2.2.1))))))), ((cell_far (p := ⟨gbz1, _, none⟩) NBz1.out _).trans (((cell_far (p := ⟨gbz1, _, none⟩) NBz1.out _).trans (((cell_far (p := ⟨gbz1, _, none⟩) NBz1.out _).trans (((cell_far (p := ⟨gbz1, _, none⟩) NBz1.out _).trans hHeld.2.2.2.2.2.2.2)))))))⟩ (fun hHeld => ?_)
 clear hK K
 refine pu 5 4 ?_ ?_ rfl rfl (by kernel_rfl) (Or.inl ⟨by rfl, ?_⟩) ?_ ?_
 rotate_left 2
 ·intro w'
  go_simp
  with_reducible rfl
 ·simp only [seval]
  rfl
 refine done_ (by kernel_rfl) ?_
 try go_wp2
 refine bodyPost_ret (results_list (rs := [.cell 2 27, .cell 3 27, .tmp 4]) rfl (by simp) (.cell gbz0 27 #[.int .i64 tz0, .int .i64 tz2, .int .i64 tz4, .slice Ao50 tz5.length co50] (0, 0) _ rfl (by refine blk_far ?_ NBz4.out _; refine blk_far ?_ NBz4.out _; refine blk_far ?_ NBz4.out _; refine blk_far ?_ NBz4.out _; refine blk_put (cs := #[.int .i64 tz0, .int .i64 tz2, .int .i64 tz4, .slice none 0 0]) ?_ 3 _ rfl; refine blk_put (cs := #[.int .i64 tz0, .int .i64 tz2, .int .i64 0, .slice none 0 0]) ?_ 2 _ rfl; refine blk_put (cs := #[.int .i64 tz0, .int .i64 0, .int .i64 0, .slice none 0 0]) ?_ 1 _ rfl; refine blk_put (cs := #[.int .i64 0, .int .i64 0, .int .i64 0, .slice none 0 0]) ?_ 0 _ rfl; exact BKz0.out) Try.underlying27 rfl (by kernel_rfl) (.cell gbz1 27 #[.int .i64 tz1, .int .i64 tz3, .int .i64 tz6, .slice Ao55 tz7.length co55] (0, 0) _ rfl (by refine blk_put (cs := #[.int .i64 tz1, .int .i64 tz3, .int .i64 tz6, .slice none 0 0]) ?_ 3 _ rfl; refine blk_put (cs := #[.int .i64 tz1, .int .i64 tz3, .int .i64 0, .slice none 0 0]) ?_ 2 _ rfl; refine blk_put (cs := #[.int .i64 tz1, .int .i64 0, .int .i64 0, .slice none 0 0]) ?_ 1 _ rfl; refine blk_put (cs := #[.int .i64 0, .int .i64 0, .int .i64 0, .slice none 0 0]) ?_ 0 _ rfl; refine blk_far ?_ NBz5.out _; refine blk_far ?_ NBz5.out _; refine blk_far ?_ NBz5.out _; refine blk_far ?_ NBz5.out _; exact BKz1.out) Try.underlying27 rfl (by kernel_rfl) (.tmp .nil)))) rfl ?_
 exact ⟨_, _, _, by rfl, by exact Kd.Q_mono (Kd.Q_far (p := ⟨gbz1, 3, none⟩) (Kd.Q_far (p := ⟨gbz1, 2, none⟩) (Kd.Q_far (p := ⟨gbz1, 1, none⟩) (Kd.Q_far (p := ⟨gbz1, 0, none⟩) (Kd.Q_far (p := ⟨gbz0, 3, none⟩) (Kd.Q_far (p := ⟨gbz0, 2, none⟩) (Kd.Q_far (p := ⟨gbz0, 1, none⟩) (Kd.Q_far (p := ⟨gbz0, 0, none⟩) (Kd.Q_types (Kd.Q_types HOz0.out BKz0.out (by decide)) BKz1.out (by decide)) (fun _ hk => hk.1.2) (.int .i64 tz0)) (fun _ hk => hk.1.2) (.int .i64 tz2)) (fun _ hk => hk.1.2) (.int .i64 tz4)) (fun _ hk => hk.1.2) (.slice Ao50 tz5.length co50)) (fun _ hk => hk.2) (.int .i64 tz1)) (fun _ hk => hk.2) (.int .i64 tz3)) (fun _ hk => hk.2) (.int .i64 tz6)) (fun _ hk => hk.2) (.slice Ao55 tz7.length co55)) (fun _ hk => hk.1.1), by exact Kd.Q_mono (Kd.Q_far (p := ⟨gbz1, 3, none⟩) (Kd.Q_far (p := ⟨gbz1, 2, none⟩) (Kd.Q_far (p := ⟨gbz1, 1, none⟩) (Kd.Q_far (p := ⟨gbz1, 0, none⟩) (Kd.Q_far (p := ⟨gbz0, 3, none⟩) (Kd.Q_far (p := ⟨gbz0, 2, none⟩) (Kd.Q_far (p := ⟨gbz0, 1, none⟩) (Kd.Q_far (p := ⟨gbz0, 0, none⟩) (Kd.Q_types (Kd.Q_types HOz1.out BKz0.out (by decide)) BKz1.out (by decide)) (fun _ hk => hk.1.2) (.int .i64 tz0)) (fun _ hk => hk.1.2) (.int .i64 tz2)) (fun _ hk => hk.1.2) (.int .i64 tz4)) (fun _ hk => hk.1.2) (.slice Ao50 tz5.length co50)) (fun _ hk => hk.2) (.int .i64 tz1)) (fun _ hk => hk.2) (.int .i64 tz3)) (fun _ hk => hk.2) (.int .i64 tz6)) (fun _ hk => hk.2) (.slice Ao55 tz7.length co55)) (fun _ hk => hk.1.1), by exact Kd.R_mono (Kd.R_far (p := ⟨gbz1, 3, none⟩) (Kd.R_far (p := ⟨gbz1, 2, none⟩) (Kd.R_far (p := ⟨gbz1, 1, none⟩) (Kd.R_far (p := ⟨gbz1, 0, none⟩) (Kd.R_far (p := ⟨gbz0, 3, none⟩) (Kd.R_far (p := ⟨gbz0, 2, none⟩) (Kd.R_far (p := ⟨gbz0, 1, none⟩) (Kd.R_far (p := ⟨gbz0, 0, none⟩) (Kd.R_types (Kd.R_types HOz2.out BKz0.out (by decide)) BKz1.out (by decide)) (fun _ hk => hk.1.2) (.int .i64 tz0)) (fun _ hk => hk.1.2) (.int .i64 tz2)) (fun _ hk => hk.1.2) (.int .i64 tz4)) (fun _ hk => hk.1.2) (.slice Ao50 tz5.length co50)) (fun _ hk => hk.2) (.int .i64 tz1)) (fun _ hk => hk.2) (.int .i64 tz3)) (fun _ hk => hk.2) (.int .i64 tz6)) (fun _ hk => hk.2) (.slice Ao55 tz7.length co55)) (fun _ hk => trivial), by repeat (with_reducible first | exact HB.out | refine below_set ?_ GEz2.out | refine below_set ?_ GEz3.out)⟩

end Go.Proofs.Ytnofkbbcbpjhfaa.Q

/- A pixel's numbers, and where they lie. -/
namespace Go.Proofs.Ytnofkbbcbpjhfaa.Pure
open Go.RowKit Go.Proofs.Ytnofkbbcbpjhfaa.Q Go.Proofs.YtnofkbbcbpjhfaaW.PrintWords Go.Proofs.YtnofkbbcbpjhfaaW.PrintLast Go.Proofs.YtnofkbbcbpjhfaaW.PrintMore
set_option linter.unusedVariables false
set_option linter.unusedSimpArgs false

def pixJ (a p : Int) (x y : Nat) : Int := wrap64 ((wrap64 ((wrap64 ((y : Int) * a)) + (x : Int))) * p)
theorem pixJ_is {a b p : Int} {d : List Int} (hv : validI a b p d = true) {x y : Nat} (hx : (x : Int) < a) (hy : (y : Int) < b) : 0 ≤ pixJ a p x y ∧ pixJ a p x y ≤ 1024 ∧ pixJ a p x y = ((y : Int) * a + x) * p ∧ pixJ a p x y + p ≤ (d.length : Int) := by
 have h := (validI_iff a b p d).1 hv
 have hp := shape_prod h.1
 have h1 : 0 ≤ (y : Int) * a := Int.mul_nonneg (by omega) (by omega)
 have h2 : (y : Int) * a ≤ (b - 1) * a := Int.mul_le_mul_of_nonneg_right (by omega) (by omega)
 have h3 : (b - 1) * a = a * b - a := by rw [Int.sub_mul, Int.mul_comm b a]; omega
 have h4 : 0 ≤ ((y : Int) * a + x) * p := Int.mul_nonneg (by omega) (by omega)
 have h5 : ((y : Int) * a + x) * p ≤ (a * b - 1) * p := Int.mul_le_mul_of_nonneg_right (by omega) (by omega)
 have h6 : (a * b - 1) * p = a * b * p - p := by rw [Int.sub_mul]; omega
 have e : pixJ a p x y = ((y : Int) * a + x) * p := by
  unfold pixJ
  rw [w64 (x := (y : Int) * a) (by omega) (by omega), w64 (x := (y : Int) * a + (x : Int)) (by omega) (by omega), w64 (by omega) (by omega)]
 omega
theorem pixT_len (d : List Int) (j p : Int) : (pixT d j p).length ≤ d.length := by
 unfold pixT
 rw [List.length_drop, List.length_take]
 omega

/- The pixels at which two images differ, as the program and the reference have them. -/
def chg (a b p : Int) (d1 d2 : List Int) (x y : Nat) : Bool := decide ((x : Int) < a) && (decide ((y : Int) < b) && !(decide (pixT d1 (pixJ a p x y) p = pixT d2 (pixJ a p x y) p)))
theorem chg_in (a b p : Int) (d1 d2 : List Int) (x y : Nat) (hx : (x : Int) < a) (hy : (y : Int) < b) : chg a b p d1 d2 x y = !(decide (pixT d1 (pixJ a p x y) p = pixT d2 (pixJ a p x y) p)) := by
 unfold chg; rw [decide_eq_true hx, decide_eq_true hy, Bool.true_and, Bool.true_and]

theorem copyInts_eq (l : List Int) (hl : l.length ≤ 1000000) : spec_copyInts.f l = some l := by
 unfold spec_copyInts.f
 simp only [Option.bind_some]
 rw [if_pos (by simp; omega)]
 simp
theorem spec_pixelAt_eq {a b p : Int} {d : List Int} (hv : validI a b p d = true) {x y : Nat} (hx : (x : Int) < a) (hy : (y : Int) < b) : spec_pixelAt.f a b p d (x : Int) (y : Int) = some (pixT d (pixJ a p x y) p) := by
 have h := pixJ_is hv hx hy
 have hh := (validI_iff a b p d).1 hv
 have hp := shape_prod hh.1
 have e : wrap64 ((wrap64 ((wrap64 ((y : Int) * a)) + (x : Int))) * p) = pixJ a p x y := rfl
 unfold spec_pixelAt.f
 rw [e]
 generalize pixJ a p x y = j at *
 have hw : wrap64 (j + p) = j + p := w64 (by omega) (by omega)
 rw [if_pos (by omega), if_pos (by omega), if_pos (by omega)]
 have hl := pixT_len d j p
 show (spec_copyInts.f (pixT d j p)).bind _ = _
 rw [copyInts_eq _ (by omega)]
 rfl
theorem spec_equalInts_ev (l m : List Int) (hl : l.length ≤ 1000000) : Ev (fun k => spec_equalInts.f k l m) (decide (l = m)) := by
 unfold spec_equalInts.f
 by_cases hn : l.length = m.length
 ·have key := ev_up l.length (fun k i (_ : Unit) => spec_equalInts.l0 k l m (i : Int)) (fun _ _ => True) (fun i _ => decide (l.drop i = m.drop i))
   (by
    intro i s hi _
    have e1 := List.drop_eq_getElem_cons hi
    have e2 := List.drop_eq_getElem_cons (show i < m.length by omega)
    by_cases c : l[i] = m[i]'(by omega)
    ·refine .inr ⟨(), fun k => ?_, trivial, ?_⟩
     ·simp only [spec_equalInts.l0]
      rw [if_pos (by omega), if_pos (by omega), if_pos (by omega), rd_nat l i hi, rd_nat m i (by omega), if_pos c, w64n i (by omega)]
     ·rw [e1, e2, decide_eq_decide, List.cons.injEq]
      exact ⟨fun h => ⟨c, h⟩, fun h => h.2⟩
    ·left
     rw [e1, e2, decide_eq_false (by rw [List.cons.injEq]; exact fun h => c h.1)]
     refine Ev.step (f := fun _ => some false) (fun k => ?_) (Ev.now _)
     simp only [spec_equalInts.l0]
     rw [if_pos (by omega), if_pos (by omega), if_pos (by omega), rd_nat l i hi, rd_nat m i (by omega), if_neg c])
   (by
    intro s _
    refine Ev.step (f := fun _ => some true) (fun k => ?_) (ev_const (by rw [List.drop_length, hn, List.drop_length]; rfl))
    simp only [spec_equalInts.l0]
    rw [if_neg (by omega)])
   l.length 0 () (by omega) trivial
  exact ev_pos (by omega) (by simpa using key)
 ·refine ev_neg (by omega) ?_
  rw [decide_eq_false (fun h => hn (by rw [h]))]
  exact Ev.now _
def upG (f : Nat → Nat → Bool) (y x q : Nat) : Bool := decide (q / 16 < y ∨ (q / 16 = y ∧ q % 16 < x)) && f (q % 16) (q / 16)
theorem upG_set (f : Nat → Nat → Bool) (y x q : Nat) (hx : x < 16) : (if q = y * 16 + x then f x y else upG f y x q) = upG f y (x + 1) q := by
 unfold upG
 by_cases e : q = y * 16 + x
 ·have e1 : q % 16 = x := by omega
  have e2 : q / 16 = y := by omega
  rw [if_pos e, e1, e2, decide_eq_true (by omega), Bool.true_and]
 ·rw [if_neg e]
  congr 1
  rw [decide_eq_decide]
  omega
theorem upG_row (f : Nat → Nat → Bool) (W y q : Nat) (hf : ∀ x, W ≤ x → f x y = false) (hW : W ≤ 16) : upG f y W q = upG f (y + 1) 0 q := by
 unfold upG
 by_cases e : q / 16 = y
 ·by_cases c : q % 16 < W
  ·rw [decide_eq_true (by omega), decide_eq_true (by omega)]
  ·rw [e, hf _ (by omega), Bool.and_false, Bool.and_false]
 ·congr 1
  rw [decide_eq_decide]
  omega
theorem chg_col (a b p : Int) (d1 d2 : List Int) (x y : Nat) (h : a ≤ (x : Int)) : chg a b p d1 d2 x y = false := by
 unfold chg; rw [decide_eq_false (by omega), Bool.false_and]
theorem chg_row (a b p : Int) (d1 d2 : List Int) (x y : Nat) (h : b ≤ (y : Int)) : chg a b p d1 d2 x y = false := by
 unfold chg; rw [decide_eq_false (show ¬ (y : Int) < b by omega), Bool.false_and, Bool.and_false]
theorem spec_changed_ev (W H : Nat) (p : Int) (d1 d2 : List Int) (hv1 : validI W H p d1 = true) (hv2 : validI W H p d2 = true) : Ev (fun k => spec_changed.f k W H p d1 W H p d2) (runsL (gso (chg W H p d1 d2) 256)) := by
 have hh := (validI_iff _ _ _ _).1 hv1
 have hpr := shape_prod hh.1
 have hW : W ≤ 16 := by omega
 have hH : H ≤ 16 := by omega
 obtain ⟨f, hf⟩ : ∃ f, f = chg W H p d1 d2 := ⟨_, rfl⟩
 have hlast : ∀ q, q < 256 → upG f H 0 q = gso f 256 q := by
  intro q hq
  rw [gso_at _ _ hq]
  unfold upG
  by_cases c : q / 16 < H
  ·rw [decide_eq_true (by omega), Bool.true_and]
  ·rw [hf, chg_row _ _ _ _ _ _ _ (by omega), Bool.and_false]
 have key := ev_up2 H (fun k y (s : List Bool) => spec_changed.l0 k s (y : Int) W H p d1 W H p d2) (fun y s => s = tab (upG f y 0)) (fun _ _ => runsL (gso f 256))
  (by
   intro y s hy hs
   right
   refine ⟨tab (upG f (y + 1) 0), fun R hR => ?_, rfl, rfl⟩
   have inner := ev_up2 W (fun k x (s : List Bool) => spec_changed.l1 k s (y : Int) (x : Int) W H p d1 W H p d2) (fun x s => s = tab (upG f y x)) (fun _ _ => R)
    (by
     intro x s hx hs
     right
     refine ⟨tab (upG f y (x + 1)), fun R' hR' => ?_, rfl, rfl⟩
     have e1 := spec_pixelAt_eq hv1 (x := x) (y := y) (by omega) (by omega)
     have e2 := spec_pixelAt_eq hv2 (x := x) (y := y) (by omega) (by omega)
     have hl := pixT_len d1 (pixJ W p x y) p
     have e3 := spec_equalInts_ev (pixT d1 (pixJ W p x y) p) (pixT d2 (pixJ W p x y) p) (by omega)
     have e4 : wrap64 ((wrap64 ((y : Int) * 16)) + (x : Int)) = ((y * 16 + x : Nat) : Int) := by
      rw [w64 (x := (y : Int) * 16) (by omega) (by omega), w64 (by omega) (by omega)]; omega
     have e5 : (!(decide (pixT d1 (pixJ W p x y) p = pixT d2 (pixJ W p x y) p))) = f x y := by rw [hf, chg_in _ _ _ _ _ _ _ (by omega) (by omega)]
     have hset : s.set (y * 16 + x) (f x y) = tab (upG f y (x + 1)) := by
      rw [hs, tab_set]
      exact tab_congr (fun q _ => upG_set f y x q (by omega))
     have hlen : s.length = 256 := by rw [hs, tab_length]
     refine Ev.step (f := fun k => (spec_pixelAt.f W H p d1 (x : Int) (y : Int)).bind fun u => (spec_pixelAt.f W H p d2 (x : Int) (y : Int)).bind fun v => (spec_equalInts.f k u v).bind fun z => if 0 ≤ (wrap64 ((wrap64 ((y : Int) * 16)) + (x : Int))) then (if (wrap64 ((wrap64 ((y : Int) * 16)) + (x : Int))) < (s.length : Int) then spec_changed.l1 k (s.set ((wrap64 ((wrap64 ((y : Int) * 16)) + (x : Int))) : Int).toNat (!z)) (y : Int) (wrap64 ((x : Int) + 1)) W H p d1 W H p d2 else none) else none) (fun k => ?_) ?_
     ·simp only [spec_changed.l1]
      rw [if_pos (by omega)]
     ·refine ev_now e1 (ev_now e2 (ev_bind e3 ?_))
      rw [e4, e5]
      refine ev_pos (by omega) (ev_pos (by omega) ?_)
      rw [Int.toNat_natCast, hset, w64n x (by omega)]
      exact hR')
    (by
     intro s hs
     have hrow : s = tab (upG f (y + 1) 0) := by
      rw [hs]
      exact tab_congr (fun q _ => upG_row f W y q (fun x hx => by rw [hf]; exact chg_col _ _ _ _ _ _ _ (by omega)) hW)
     refine Ev.step (fun k => ?_) (show Ev (fun k => spec_changed.l0 k s ((y + 1 : Nat) : Int) W H p d1 W H p d2) R from by rw [hrow]; exact hR)
     simp only [spec_changed.l1]
     rw [if_neg (by omega), w64n y (by omega)])
    W 0 s (by omega) hs
   have inner' : Ev (fun k => spec_changed.l1 k s (y : Int) 0 W H p d1 W H p d2) R := inner
   refine Ev.step (fun k => ?_) inner'
   simp only [spec_changed.l0]
   rw [if_pos (by omega)])
  (by
   intro s hs
   have hend : s = tab (gso f 256) := by rw [hs]; exact tab_congr hlast
   refine Ev.step (f := fun k => (spec_runsOf.f k s).bind fun t => some t) (fun k => ?_) (ev_bind (by rw [hend]; exact spec_runsOf_ev _) (Ev.now _))
   simp only [spec_changed.l0]
   rw [if_neg (by omega)])
  H 0 (List.replicate 256 false) (by omega) (by
   rw [tab_false]
   refine tab_congr (fun q _ => ?_)
   unfold upG
   rw [decide_eq_false (by omega), Bool.false_and])
 unfold spec_changed.f
 rw [← hf]
 have key' : Ev (fun k => spec_changed.l0 k (List.replicate 256 false) 0 W H p d1 W H p d2) (runsL (gso f 256)) := key
 exact ev_pos (by omega) key'

/- The reference's parts of a region. -/

theorem tabD (g : Nat → Bool) (p : Nat) (hp : p < 256) : (tab g).getD p false = g p := by
 simp [tab, List.getD_eq_getElem?_getD, hp]
theorem spread_eq (g : Nat → Bool) (a : Nat) (ha : a < 256) : spec_spreadFrom.f (tab g) (a : Int) = some (tab (comp g a)) := by
 unfold spec_spreadFrom.f
 rw [if_pos ⟨tab_length g, by omega, by omega⟩, Int.toNat_natCast]
 congr 1
 exact tab_congr (fun q _ => comp_congr (fun p hp => tabD g p hp) a q)
theorem spec_parts_from : ∀ (n a : Nat) (g : Nat → Bool) (acc : List (List Run)), a + n = 256 → acc.length ≤ a → Ev (fun k => spec_parts.l0 k acc (tab g) (a : Int)) (acc ++ partsS n a g) := by
 intro n
 induction n with
 | zero =>
  intro a g acc ha _
  refine Ev.step (f := fun _ => some acc) (fun k => ?_) (ev_const (by unfold partsS; rw [List.append_nil]))
  simp only [spec_parts.l0]
  rw [if_neg (by rw [tab_length]; omega)]
 | succ n ih =>
  intro a g acc ha hl
  have ha256 : a < 256 := by omega
  cases hg : g a with
  | false =>
   have e : partsS (n + 1) a g = partsS n (a + 1) g := by
    conv => lhs; unfold partsS
    rw [if_neg (by rw [hg]; simp)]
   rw [e]
   refine Ev.step (fun k => ?_) (ih (a + 1) g acc (by omega) (by omega))
   simp only [spec_parts.l0]
   rw [if_pos (by rw [tab_length]; omega), if_pos (by omega), tab_get g a ha256, if_neg (by rw [hg]; simp), w64n a (by omega)]
  | true =>
   have e : partsS (n + 1) a g = runsL (comp g a) :: partsS n (a + 1) (fun q => g q && !(comp g a q)) := by
    conv => lhs; unfold partsS
    rw [if_pos hg]
   rw [e]
   have hnext : Ev (fun k => spec_parts.l0 k (acc ++ [runsL (comp g a)]) (tab (fun q => g q && !(comp g a q))) ((a + 1 : Nat) : Int)) (acc ++ runsL (comp g a) :: partsS n (a + 1) (fun q => g q && !(comp g a q))) := by
    have h := ih (a + 1) (fun q => g q && !(comp g a q)) (acc ++ [runsL (comp g a)]) (by omega) (by rw [List.length_append, List.length_singleton]; omega)
    rw [List.append_assoc] at h
    exact h
   have hfill := fill_ev (fun q => g q && !(comp g a q)) g (fun k s p => spec_parts.l1 k (acc ++ [runsL (comp g a)]) s (a : Int) (tab (comp g a)) (p : Int)) _
    (by
     intro k s p hp hs
     have hr : rdOf false s (p : Int) = g p := by rw [hs, tab_get _ _ hp, if_neg (by omega)]
     have hsl : (p : Int) < (s.length : Int) := by rw [hs, tab_length]; omega
     have hpl : (p : Int) < ((tab (comp g a)).length : Int) := by rw [tab_length]; omega
     simp only [spec_parts.l1]
     rw [if_pos hsl, if_pos (by omega), hr, w64n p (by omega), Int.toNat_natCast, tab_get _ _ hp]
     cases hgp : g p with
     | true => rw [if_pos rfl, if_pos hpl, Bool.true_and]
     | false => rw [if_neg (by simp), Bool.false_and])
    (by
     refine Ev.step (fun k => ?_) hnext
     simp only [spec_parts.l1]
     rw [if_neg (by rw [tab_length]; omega), w64n a (by omega)])
   have hfill' : Ev (fun k => spec_parts.l1 k (acc ++ [runsL (comp g a)]) (tab g) (a : Int) (tab (comp g a)) 0) _ := hfill
   refine Ev.step (f := fun k => (spec_spreadFrom.f (tab g) (a : Int)).bind fun t => (spec_runsOf.f k t).bind fun u => if acc.length < 5864062014805 then spec_parts.l1 k (acc ++ [u]) (tab g) (a : Int) t 0 else none) (fun k => ?_) (ev_now (spread_eq g a ha256) (ev_bind (spec_runsOf_ev _) (ev_pos (by omega) hfill')))
   simp only [spec_parts.l0]
   rw [if_pos (by rw [tab_length]; omega), if_pos (by omega), tab_get g a ha256, if_pos hg]
theorem spec_parts_ev (l : List Run) (hl : l.length ≤ 1000000000) (hok : ∀ r ∈ l, 0 ≤ r.f0 ∧ r.f0 < 16 ∧ 0 ≤ r.f1 ∧ r.f2 ≤ 16) : Ev (fun k => spec_parts.f k l) (partsS 256 0 (gridF l)) := by
 unfold spec_parts.f
 exact ev_bind (spec_gridOf_ev l hl hok) (spec_parts_from 256 0 (gridF l) [] (by omega) (by simp))

/- ChangedBoxes, as the program and the reference have it. -/
def boxB (l : List S118) : S47 := ⟨(boundsR l).1, (boundsR l).2.1, (boundsR l).2.2.1, (boundsR l).2.2.2⟩

noncomputable def chBoxes (a b p : Int) (d1 : List Int) (a' b' p' : Int) (d2 : List Int) : List Box := if sameV a b p d1 a' b' p' d2 = true then (partsS 256 0 (gso (chg a b p d1 d2) 256)).map boxB else []
theorem chBoxes_len (a b p : Int) (d1 : List Int) (a' b' p' : Int) (d2 : List Int) : (chBoxes a b p d1 a' b' p' d2).length ≤ 256 := by
 unfold chBoxes
 split
 ·rw [List.length_map]; exact partsS_len 256 0 _
 ·simp
theorem boundsLoop (L : List (List Run)) (h : ∀ r ∈ L, r ≠ [] ∧ r.length ≤ 272 ∧ ∀ x ∈ r, runOK x = true) (hL : L.length ≤ 256) : Ev (fun k => spec_ChangedBoxes.l0 k [] L 0) (L.map boxB) := by
 have key := ev_up2 L.length (fun k i (s : List Box) => spec_ChangedBoxes.l0 k s L (i : Int)) (fun i s => s = (L.take i).map boxB) (fun _ _ => L.map boxB)
  (by
   intro i s hi hs
   right
   refine ⟨(L.take (i + 1)).map boxB, fun R hR => ?_, rfl, rfl⟩
   have hx := h L[i] (List.getElem_mem hi)
   have hrd : rd_L17 L (i : Int) = L[i] := by simp [rd_L17, hi]
   have hb : Ev (fun k => spec_boundsOf.f k L[i]) (boundsR L[i]) := ev_of L[i].length (fun k hk => spec_boundsOf_eq L[i] hx.1 (by omega) hx.2.2 k hk)
   have hlen : s.length ≤ 256 := by rw [hs, List.length_map, List.length_take]; omega
   have htk : (L.take (i + 1)).map boxB = s ++ [boxB L[i]] := by rw [List.take_succ_eq_append_getElem hi, List.map_append, hs]; rfl
   refine Ev.step (f := fun k => (spec_boundsOf.f k L[i]).bind fun bt => if s.length < 4398046511104 then spec_ChangedBoxes.l0 k (s ++ [⟨bt.1, bt.2.1, bt.2.2.1, bt.2.2.2⟩]) L (wrap64 ((i : Int) + 1)) else none) (fun k => ?_) (ev_bind hb (ev_pos (by omega) ?_))
   ·simp only [spec_ChangedBoxes.l0]
    rw [if_pos (by omega), if_pos (by omega), hrd]
   ·rw [w64n i (by omega)]
    rw [htk] at hR
    exact hR)
  (by
   intro s hs
   refine Ev.step (f := fun _ => some s) (fun k => ?_) (ev_const (by rw [hs, List.take_length]))
   simp only [spec_ChangedBoxes.l0]
   rw [if_neg (by omega)])
  L.length 0 [] (by omega) (by simp)
 exact key
theorem spec_ChangedBoxes_ev (a b p : Int) (d1 : List Int) (a' b' p' : Int) (d2 : List Int) (hl : d1.length ≤ 1000000000000) (hl' : d2.length ≤ 1000000000000) : Ev (fun k => spec_ChangedBoxes.f k a b p d1 a' b' p' d2) (chBoxes a b p d1 a' b' p' d2) := by
 unfold spec_ChangedBoxes.f chBoxes
 refine ev_bind (spec_sameShape_ev a b p d1 a' b' p' d2 hl hl') ?_
 by_cases c : sameV a b p d1 a' b' p' d2 = true
 ·rw [if_pos c]
  obtain ⟨h1, h2, rfl, rfl, rfl⟩ := (sameV_iff _ _ _ _ _ _ _ _).1 c
  have hh := (validI_iff _ _ _ _).1 h1
  obtain ⟨W, rfl⟩ := Int.eq_ofNat_of_zero_le (show 0 ≤ a by omega)
  obtain ⟨H, rfl⟩ := Int.eq_ofNat_of_zero_le (show 0 ≤ b by omega)
  have hlen := runsL_len (gso (chg W H p d1 d2) 256)
  have hp := spec_parts_ev (runsL (gso (chg W H p d1 d2) 256)) (by omega) (valid_ranges (runs_valid _))
  rw [partsS_congr 256 0 _ _ (by omega) (fun q hq => grid_runs (gso (chg W H p d1 d2) 256) q hq)] at hp
  refine ev_pos c (ev_bind (spec_changed_ev W H p d1 d2 h1 h2) (ev_bind hp (boundsLoop _ (fun r hr => ?_) (partsS_len 256 0 _))))
  obtain ⟨f, hf⟩ := partsS_each 256 0 _ r hr
  exact ⟨partsS_ne 256 0 _ (by omega) r hr, by rw [hf]; exact runsL_len f, by rw [hf]; exact valid_ok (runs_valid f)⟩
 ·rw [if_neg c]
  exact ev_neg c (Ev.now _)
end Go.Proofs.Ytnofkbbcbpjhfaa.Pure

/- impl.patched: an image in which the pixels of boxes are those of another one. -/
namespace Go.Proofs.Ytnofkbbcbpjhfaa.Q
open Go.RowKit Go.Proofs.YtnofkbbcbpjhfaaW.PrintWords Go.Proofs.YtnofkbbcbpjhfaaW.PrintLast Go.Proofs.YtnofkbbcbpjhfaaW.PrintMore
open Go.Proofs.YtnofkbbcbpjhfaaW.PrintWords.Aside0 (mk)
attribute [local go_sem] max2_int min2_int max_two min_two max_three min_three max_four min_four
set_option linter.unusedVariables false
set_option linter.unusedSimpArgs false
open Go.Proofs.Ytnofkbbcbpjhfaa.Pure

def put1 (a p : Int) (e : List Int) (x y : Nat) (d : List Int) : List Int := laidOver d (pixJ a p x y).toNat (pixT e (pixJ a p x y) p)
def putX (a p : Int) (e : List Int) (X y n : Nat) (d : List Int) : List Int := (List.range n).foldl (fun d i => put1 a p e (X + i) y d) d
def putB (a p : Int) (e : List Int) (X Y W n : Nat) (d : List Int) : List Int := (List.range n).foldl (fun d i => putX a p e X (Y + i) W d) d
def patchD (a p : Int) (e : List Int) (l : List S47) (d : List Int) : List Int := l.foldl (fun d r => putB a p e r.f0.toNat r.f1.toNat r.f2.toNat r.f3.toNat d) d
def onB (a b : Int) (r : S47) : Bool := decide (0 ≤ r.f0) && (decide (r.f0 < a) && (decide (0 ≤ r.f1) && (decide (r.f1 < b) && (decide (1 ≤ r.f2) && (decide (r.f2 ≤ a - r.f0) && (decide (1 ≤ r.f3) && decide (r.f3 ≤ b - r.f1)))))))
theorem onB_iff (a b : Int) (r : S47) : onB a b r = true ↔ 0 ≤ r.f0 ∧ r.f0 < a ∧ 0 ≤ r.f1 ∧ r.f1 < b ∧ 1 ≤ r.f2 ∧ r.f2 ≤ a - r.f0 ∧ 1 ≤ r.f3 ∧ r.f3 ≤ b - r.f1 := by simp [onB]
def impl_patched.f (a b p : Int) (d1 : List Int) (a2 b2 p2 : Int) (d2 : List Int) (l : List S47) : Option (Int × Int × Int × List Int) :=
 if validI a b p d1 = true ∧ validI a b p d2 = true ∧ a2 = a ∧ b2 = b ∧ p2 = p ∧ l.all (onB a b) = true then some (a, b, p, patchD a p d2 l d1) else none
theorem putX_succ (a p : Int) (e : List Int) (X y n : Nat) (d : List Int) : putX a p e X y (n + 1) d = put1 a p e (X + n) y (putX a p e X y n d) := by unfold putX; rw [List.range_succ, List.foldl_append]; rfl
theorem putB_succ (a p : Int) (e : List Int) (X Y W n : Nat) (d : List Int) : putB a p e X Y W (n + 1) d = putX a p e X (Y + n) W (putB a p e X Y W n d) := by unfold putB; rw [List.range_succ, List.foldl_append]; rfl
theorem patchD_succ (a p : Int) (e : List Int) (l : List S47) (k : Nat) (h : k < l.length) (d : List Int) : patchD a p e (l.take (k + 1)) d = putB a p e l[k].f0.toNat l[k].f1.toNat l[k].f2.toNat l[k].f3.toNat (patchD a p e (l.take k) d) := by unfold patchD; rw [List.take_succ_eq_append_getElem h, List.foldl_append]; rfl

set_option maxHeartbeats 4000000 in
set_option maxRecDepth 100000 in
theorem patched_go (a b p : Int) (A1 A2 A3 : Option Addr) (c1 c2 c3 : Nat) (d1 d2 : List Int) (l : List S47) (hv1 : validI a b p d1 = true) (hv2 : validI a b p d2 = true) (hl : ∀ r ∈ l, onB a b r = true) (hc1 : d1.length ≤ c1) (hc2 : d2.length ≤ c2) (w : World) (hr1 : Kd.C (Kd.int .i64) w A1 d1.length d1) (hr2 : Kd.C (Kd.int .i64) w A2 d2.length d2) (hr3 : Kd.C k47 w A3 l.length l) :
  Calls Try.prog 125 #[.agg #[.int .i64 a, .int .i64 b, .int .i64 p, .slice A1 d1.length c1], .agg #[.int .i64 a, .int .i64 b, .int .i64 p, .slice A2 d2.length c2], .slice A3 l.length c3] w fun e w' => ∃ v3_ : Value, e = .returned (.agg #[.int .i64 a, .int .i64 b, .int .i64 p, v3_]) ∧ Kd.R (Kd.int .i64) 3 w' w.heap.size (fun _ => True) v3_ (patchD a p d2 l d1) ∧ Below w.heap.size w w' := by
 have hsh := (validI_iff a b p d1).1 hv1
 have hsp := shape_prod hsh.1
 have hpos : 0 < a * b * p := Int.mul_pos (Int.mul_pos (by omega) (by omega)) (by omega)
 have HL1 := mk (show d1.length ≤ 1024 by omega)
 have HNE := mk (show 0 < d1.length by omega)
 have HL12 := mk (show d2.length = d1.length by have := ((validI_iff a b p d2).1 hv2).2.1; omega)
 have HV1 := mk hv1
 have HV2 := mk hv2
 have HSH := mk hsh.1
 have HC1 := mk hc1
 have HC2 := mk hc2
 have HR1 := mk hr1
 have HR2 := mk hr2
 have HR3 := mk hr3
 have HL := mk hl
 have hm : l.length ≤ 9223372036854775807 := hr3.2.1
 have HB0 := mk (Below.refl w.heap.size w)
 have HCP := mk (show impl_copyImage.f a b p d1 = some (a, b, p, d1) from by
  unfold impl_copyImage.f
  simp only [Option.bind_some]
  rw [if_pos (by simp; omega)]
  simp)
 have hu := Try.underlying27
 have hub := Try.underlying47
 have hui := Try.underlying22
 clear hsh hsp hpos hc1 hc2 hr1 hr2 hr3 hl hv1 hv2
 go_enter Try.func125, Try.ntmps125
 go_wp2_with (first | ((with_reducible refine gate_dst (N := 3) rfl ?_); refine box_event (by rfl) (N := 3) (by rfl) (cs := #[.int .i64 a, .int .i64 b, .int .i64 p, .slice A1 d1.length c1]) (t := 27) (by go_simp; done) ?_; intro g1 hg_ w1 hbox hb; have HB1 := mk (below_then HB0.out HB0.out.size hb); have K1 := mk hbox; have Gg1 := mk (show w.heap.size ≤ g1 from by rw [hg_]; exact HB0.out.size); clear hbox hb hg_) | ((with_reducible refine gate_dst (N := 4) rfl ?_); refine box_event (by rfl) (N := 4) (by rfl) (cs := #[.int .i64 a, .int .i64 b, .int .i64 p, .slice A2 d2.length c2]) (t := 27) (by go_simp; done) ?_; intro g2 hg_ w2 hbox hb; have HB2 := mk (below_then HB1.out HB1.out.size hb); have K2 := mk hbox; have Gg2 := mk (show w.heap.size ≤ g2 from by rw [hg_]; exact HB1.out.size); have K1b := mk (blk_below K1.out hb); clear hbox hb hg_) | ((with_reducible refine gate_dst (N := 6) rfl ?_); refine box_event (by rfl) (N := 6) (by rfl) (cs := #[.int .i64 0, .int .i64 0, .int .i64 0, .slice none 0 0]) (t := 27) (by go_simp; done) ?_; intro g3 hg_ w3 hbox hb; have HB3 := mk (below_then HB2.out HB2.out.size hb); have K3 := mk hbox; have Gg3 := mk (show w.heap.size ≤ g3 from by rw [hg_]; exact HB2.out.size); have K1c := mk (blk_below K1b.out hb); have K2c := mk (blk_below K2.out hb); have f0 : w3.cell? ⟨g1, 0, none⟩ = some (.int .i64 a) := (blk_cell K1c.out 0).trans rfl; have f1 : w3.cell? ⟨g1, 1, none⟩ = some (.int .i64 b) := (blk_cell K1c.out 1).trans rfl; have f2 : w3.cell? ⟨g1, 2, none⟩ = some (.int .i64 p) := (blk_cell K1c.out 2).trans rfl; have f3 : w3.cell? ⟨g1, 3, none⟩ = some (.slice A1 d1.length c1) := (blk_cell K1c.out 3).trans rfl; clear hbox hb hg_) | (go_at_call 133; (with_reducible refine (impl_copyImage.calls a b p A1 c1 d1 a b p d1 w3 (Kd.C_below HR1.out HB3.out) HC1.out HCP.out).mono ?_); rintro e w4 ⟨v4, rfl, hr4, hb4⟩; have HB4 := mk (below_then HB3.out HB3.out.size hb4); have HR4 := mk (Kd.R_lower hr4 HB3.out.size); have K2d := mk (blk_below K2c.out hb4); have K3d := mk (blk_below K3.out hb4); obtain ⟨gr, cr, e4, hgr, hgl, _⟩ := Kd.R_form hr4 HNE.out; subst e4; have GR := mk hgr; have GL := mk hgl; clear hr4 hb4 hgr hgl))
 obtain ⟨n, HN⟩ : ∃ n, Aside0 (n = d1.length) := ⟨_, ⟨rfl⟩⟩
 have HGM := blk_new w4 (.cells #[.int .i64 a, .int .i64 b, .int .i64 p, .slice (some ⟨gr, 0, none⟩) d1.length cr] 27 (0, 0))
 rw [← HN.out] at HGM ⊢
 have HR4 := HR4.out
 rw [← HN.out] at HR4
 have SZ := blk_lt K3.out
 have SZ2 := blk_lt K3d.out
 have GG3 := Gg3.out
 go_loopw [16] (fun v16 W => ∃ k : Nat, v16 = .int .i64 k ∧ k ≤ l.length ∧ (∃ D, Aside0 (D = patchD a p d2 (l.take k) d1) ∧ Aside0 (n = D.length) ∧ Kd.R (Kd.int .i64) 3 W w.heap.size (fun k => k = gr) (.slice (some ⟨gr, 0, none⟩) n cr) D) ∧ Aside0 (W.heap[w4.heap.size]? = some (.cells #[.int .i64 a, .int .i64 b, .int .i64 p, .slice (some ⟨gr, 0, none⟩) n cr] 27 (0, 0))) ∧ Aside0 (W.heap[g2]? = some (.cells #[.int .i64 a, .int .i64 b, .int .i64 p, .slice A2 d2.length c2] 27 (0, 0))) ∧ Aside0 (W.heap[g3]? = some (.cells #[.int .i64 0, .int .i64 0, .int .i64 0, .slice none 0 0] 27 (0, 0))) ∧ Aside0 (Below w.heap.size w W)) (fun v16 _ => l.length - (intOf v16).toNat)
 case atStart => exact ⟨0, rfl, by omega, ⟨d1, ⟨rfl⟩, HN, Kd.R_alloc (Kd.R_mono (Kd.R_tight rfl HR4) (fun k hk => by simpa [Value.ownBlock] using hk)) _⟩, ⟨HGM⟩, ⟨blk_alloc K2d.out _⟩, ⟨blk_alloc K3d.out _⟩, ⟨below_alloc HB4.out _⟩⟩
 case round =>
  clear HR4 HGM
  obtain ⟨k, rfl, hk, ⟨D0, HD0, HDn, hr⟩, h7, h2, h3, hb⟩ := hrel
  obtain ⟨wo, rfl⟩ : ∃ wo : World, wo = wr := ⟨_, rfl⟩
  by_cases hlt : k < l.length
  ·have hdk : decide ((k : Int) < (l.length : Int)) = true := by simp; omega
   obtain ⟨ad, e, hx0, hx1, hx2, hx3⟩ := at_T47 HR3.out (k : Int) (by omega) (by omega)
   cases e
   have er : rd_T47 l (k : Int) = l[k] := by simp [rd_T47, hlt]
   have ho := (onB_iff a b l[k]).1 (HL.out l[k] (List.getElem_mem hlt))
   have HGS := mk (patchD_succ a p d2 l k hlt d1)
   rw [er, Int.toNat_natCast] at hx0 hx1 hx2 hx3
   clear er
   generalize l[k] = r at *
   obtain ⟨X, hX⟩ := Int.eq_ofNat_of_zero_le ho.1
   obtain ⟨Y, hY⟩ := Int.eq_ofNat_of_zero_le ho.2.2.1
   obtain ⟨Wd, hWd⟩ := Int.eq_ofNat_of_zero_le (show 0 ≤ r.f2 by omega)
   obtain ⟨Hg, hHg⟩ := Int.eq_ofNat_of_zero_le (show 0 ≤ r.f3 by omega)
   rw [hX] at hx0 ho
   rw [hY] at hx1 ho
   rw [hWd] at hx2 ho
   rw [hHg] at hx3 ho
   have hsh := HSH.out
   have hx16 : X < 16 := by omega
   have hy16 : Y < 16 := by omega
   have hw16 : Wd ≤ 16 := by omega
   have hh16 : Hg ≤ 16 := by omega
   have HXA := mk (show (X : Int) + Wd ≤ a by omega)
   have HYB := mk (show (Y : Int) + Hg ≤ b by omega)
   replace HGS := mk (show patchD a p d2 (l.take (k + 1)) d1 = putB a p d2 X Y Wd Hg D0 from by rw [HGS.out, hX, hY, hWd, hHg, HD0.out]; rfl)
   clear hsh ho hX hY hWd hHg
   replace hx0 := (hb.out.cell (World.block_lt_of_cell? w _ hx0)).trans hx0
   replace hx1 := (hb.out.cell (World.block_lt_of_cell? w _ hx1)).trans hx1
   replace hx2 := (hb.out.cell (World.block_lt_of_cell? w _ hx2)).trans hx2
   replace hx3 := (hb.out.cell (World.block_lt_of_cell? w _ hx3)).trans hx3
   go_wp2
   have SB := hb.out.size
   have S7 := blk_lt h7.out
   have S3 := blk_lt h3.out
   go_loopw [10] (fun v10 W => ∃ y : Nat, v10 = .int .i64 y ∧ Y ≤ y ∧ y ≤ Y + Hg ∧ (∃ D, Aside0 (D = putB a p d2 X Y Wd (y - Y) D0) ∧ Aside0 (n = D.length) ∧ Kd.R (Kd.int .i64) 3 W w.heap.size (fun k => k = gr) (.slice (some ⟨gr, 0, none⟩) n cr) D) ∧ Aside0 (W.heap[wo.heap.size]? = some (.cells #[.int .i64 (X : Int), .int .i64 (Y : Int), .int .i64 (Wd : Int), .int .i64 (Hg : Int)] 47 (0, 0))) ∧ Aside0 (W.heap[w4.heap.size]? = some (.cells #[.int .i64 a, .int .i64 b, .int .i64 p, .slice (some ⟨gr, 0, none⟩) n cr] 27 (0, 0))) ∧ Aside0 (W.heap[g2]? = some (.cells #[.int .i64 a, .int .i64 b, .int .i64 p, .slice A2 d2.length c2] 27 (0, 0))) ∧ Aside0 (W.heap[g3]? = some (.cells #[.int .i64 0, .int .i64 0, .int .i64 0, .slice none 0 0] 27 (0, 0))) ∧ Aside0 (Below w.heap.size w W)) (fun v10 _ => Y + Hg - (intOf v10).toNat)
   case atStart => exact ⟨Y, rfl, Nat.le_refl _, by omega, ⟨D0, ⟨by rw [Nat.sub_self]; rfl⟩, HDn, Kd.R_alloc hr _⟩, ⟨blk_new _ _⟩, ⟨blk_alloc h7.out _⟩, ⟨blk_alloc h2.out _⟩, ⟨blk_alloc h3.out _⟩, ⟨below_alloc hb.out _⟩⟩
   case round =>
    clear hr h7 h2 h3 hb HDn
    obtain ⟨y, rfl, hYy, hyH, ⟨D1, HD1, HDn, hr⟩, h9, h7, h2, h3, hb⟩ := hrel
    have k0 : wr.cell? ⟨wo.heap.size, 0, none⟩ = some (.int .i64 (X : Int)) := (blk_cell h9.out 0).trans rfl
    have k1 : wr.cell? ⟨wo.heap.size, 1, none⟩ = some (.int .i64 (Y : Int)) := (blk_cell h9.out 1).trans rfl
    have k2 : wr.cell? ⟨wo.heap.size, 2, none⟩ = some (.int .i64 (Wd : Int)) := (blk_cell h9.out 2).trans rfl
    have k3 : wr.cell? ⟨wo.heap.size, 3, none⟩ = some (.int .i64 (Hg : Int)) := (blk_cell h9.out 3).trans rfl
    by_cases hly : y < Y + Hg
    ·have hdy : decide ((y : Int) < (Y : Int) + (Hg : Int)) = true := by simp; omega
     go_wp2
     go_loopw [11] (fun v11 W => ∃ x : Nat, v11 = .int .i64 x ∧ X ≤ x ∧ x ≤ X + Wd ∧ (∃ D, Aside0 (D = putX a p d2 X y (x - X) D1) ∧ Aside0 (n = D.length) ∧ Kd.R (Kd.int .i64) 3 W w.heap.size (fun k => k = gr) (.slice (some ⟨gr, 0, none⟩) n cr) D) ∧ Aside0 (W.heap[wo.heap.size]? = some (.cells #[.int .i64 (X : Int), .int .i64 (Y : Int), .int .i64 (Wd : Int), .int .i64 (Hg : Int)] 47 (0, 0))) ∧ Aside0 (W.heap[w4.heap.size]? = some (.cells #[.int .i64 a, .int .i64 b, .int .i64 p, .slice (some ⟨gr, 0, none⟩) n cr] 27 (0, 0))) ∧ Aside0 (W.heap[g2]? = some (.cells #[.int .i64 a, .int .i64 b, .int .i64 p, .slice A2 d2.length c2] 27 (0, 0))) ∧ Aside0 (W.heap[g3]? = some (.cells #[.int .i64 0, .int .i64 0, .int .i64 0, .slice none 0 0] 27 (0, 0))) ∧ Aside0 (Below w.heap.size w W)) (fun v11 _ => X + Wd - (intOf v11).toNat)
     case atStart => exact ⟨X, rfl, Nat.le_refl _, by omega, ⟨D1, ⟨by rw [Nat.sub_self]; rfl⟩, HDn, hr⟩, h9, h7, h2, h3, hb⟩
     case round =>
      clear hr h9 h7 h2 h3 hb k0 k1 k2 k3 HDn
      obtain ⟨x, rfl, hXx, hxW, ⟨D, HD2, HDn, hr⟩, h9, h7, h2, h3, hb⟩ := hrel
      have k0 : wr.cell? ⟨wo.heap.size, 0, none⟩ = some (.int .i64 (X : Int)) := (blk_cell h9.out 0).trans rfl
      have k2 : wr.cell? ⟨wo.heap.size, 2, none⟩ = some (.int .i64 (Wd : Int)) := (blk_cell h9.out 2).trans rfl
      by_cases hlx : x < X + Wd
      ·have hdx : decide ((x : Int) < (X : Int) + (Wd : Int)) = true := by simp; omega
       obtain ⟨j, hj⟩ : ∃ j, pixJ a p x y = j := ⟨_, rfl⟩
       have hxa : (x : Int) < a := by have := HXA.out; omega
       have hyb : (y : Int) < b := by have := HYB.out; omega
       have hb1 := pixJ_is HV1.out hxa hyb
       have hb2 := pixJ_is HV2.out hxa hyb
       have hpp := HSH.out
       rw [hj] at hb1 hb2
       have hw : wrap64 (j + p) = j + p := w64 (by omega) (by omega)
       have hnn := HN.out
       obtain ⟨_, _, _, _, _, hcrn, _⟩ : Nonempty True ∧ Nonempty True ∧ Nonempty True ∧ Nonempty True ∧ Nonempty True ∧ n ≤ cr ∧ True := ⟨⟨trivial⟩, ⟨trivial⟩, ⟨trivial⟩, ⟨trivial⟩, ⟨trivial⟩, (Kd.R_reads' hr).2.1, trivial⟩
       have AT1 := mk (fun W => at_callsX a b p (some ⟨gr, 0, none⟩) cr n (x : Int) (y : Int) j hcrn hj (by omega) (by omega) (by omega) (some ⟨gr, j.toNat, none⟩) (by
        rw [if_neg (by omega)]
        simp only [Option.map_some]
        unfold Addr.add
        split <;> simp_all) W)
       obtain ⟨Aq, hAq⟩ : ∃ Aq, Aq = if c2 = j.toNat then A2 else A2.map (·.add (j.toNat * 1)) := ⟨_, rfl⟩
       have AT2 := mk (fun W => at_callsX a b p A2 c2 d2.length (x : Int) (y : Int) j HC2.out hj (by omega) (by omega) (by omega) Aq hAq W)
       have HP2 := mk (fun (W : World) (hW : Below w.heap.size w W) => pixT_C (j := j) (p := p) (Kd.C_below HR2.out hW) HC2.out (by omega) (by omega))
       rw [pixT_length d2 j p (by omega), ← hAq] at HP2
       have HF := mk (show j.toNat + ((wrap64 (j + p)).toNat - j.toNat) ≤ n by omega)
       have HPL := mk (pixT_length d2 j p (by omega))
       have HJ := mk hj
       clear hb1 hb2 hpp hw hnn hcrn hj hxa hyb hAq
       go_wp2
       refine wp_region_held_drew (S := (fun W => Aside0 (Below w.heap.size w W) ∧ Aside0 (W.heap[w4.heap.size]? = some (.cells #[.int .i64 a, .int .i64 b, .int .i64 p, .slice (some ⟨gr, 0, none⟩) n cr] 27 (0, 0))) ∧ Aside0 (W.heap[g2]? = some (.cells #[.int .i64 a, .int .i64 b, .int .i64 p, .slice A2 d2.length c2] 27 (0, 0))) ∧ Aside0 (W.heap[wo.heap.size]? = some (.cells #[.int .i64 (X : Int), .int .i64 (Y : Int), .int .i64 (Wd : Int), .int .i64 (Hg : Int)] 47 (0, 0))) ∧ Aside0 (W.heap[g3]? = some (.cells #[.int .i64 0, .int .i64 0, .int .i64 0, .slice none 0 0] 27 (0, 0))))) (by kernel_rfl) ⟨⟨below_drew hb.out⟩, ⟨blk_below h7.out (below_drew (Below.refl _ _))⟩, ⟨blk_below h2.out (below_drew (Below.refl _ _))⟩, ⟨blk_below h9.out (below_drew (Below.refl _ _))⟩, ⟨blk_below h3.out (below_drew (Below.refl _ _))⟩⟩ (fun hH => ?_)
       have hrd := Kd.R_drew hr
       obtain ⟨W0, hW0⟩ : ∃ W, W = wr.drew := ⟨_, rfl⟩
       rw [← hW0] at hH hrd ⊢
       clear hW0 hr hb h7 h2 h3 h9
       refine wpAnyH_take (i := 0) rfl (by kernel_rfl) (by kernel_rfl) (by kernel_rfl) (fun _ _ _ h => h) (yields_img (by kernel_rfl) _ rfl w4.heap.size rfl #[.int .i64 a, .int .i64 b, .int .i64 p, .slice (some ⟨gr, 0, none⟩) n cr] (fun W hW => hW.2.1.out) rfl) hH ?_
       simp only [bool_to_prop]
       refine wpAnyH_take (i := 1) (v := .int .i64 (x : Int)) rfl (by kernel_rfl) (by kernel_rfl) (by kernel_rfl) (fun _ _ _ h => h) (.inl ⟨by kernel_rfl, fun W hW => by (go_simp; done)⟩) hH ?_
       simp only [bool_to_prop]
       refine wpAnyH_take (i := 2) (v := .int .i64 (y : Int)) rfl (by kernel_rfl) (by kernel_rfl) (by kernel_rfl) (fun _ _ _ h => h) (.inl ⟨by kernel_rfl, fun W hW => by (go_simp; done)⟩) hH ?_
       simp only [bool_to_prop]
       refine wpAnyH_take (i := 4) rfl (by kernel_rfl) (by kernel_rfl) (by kernel_rfl) (fun _ _ _ h => h) (yields_img (by kernel_rfl) _ rfl g2 rfl #[.int .i64 a, .int .i64 b, .int .i64 p, .slice A2 d2.length c2] (fun W hW => hW.2.2.1.out) rfl) hH ?_
       simp only [bool_to_prop]
       refine wpAnyH_take (i := 5) (v := .int .i64 (x : Int)) rfl (by kernel_rfl) (by kernel_rfl) (by kernel_rfl) (fun _ _ _ h => h) (.inl ⟨by kernel_rfl, fun W hW => by (go_simp; done)⟩) hH ?_
       simp only [bool_to_prop]
       refine wpAnyH_take (i := 6) (v := .int .i64 (y : Int)) rfl (by kernel_rfl) (by kernel_rfl) (by kernel_rfl) (fun _ _ _ h => h) (.inl ⟨by kernel_rfl, fun W hW => by (go_simp; done)⟩) hH ?_
       simp only [bool_to_prop]
       refine wpAnyH_ready (rs := [3]) (by kernel_rfl) (by simp) ?_
       refine AllReadyH.cons (i := 3) rfl ?_ AllReadyH.nil
       intro K hK
       rw [if_pos (by rfl)]
       go_simp
       go_wp2_with (first | (go_at_call 109; (with_reducible refine (AT1.out _).mono ?_); rintro e W1 ⟨rfl, hb⟩))
       refine hK.out _ _ ⟨⟨below_then hH.1.out hH.1.out.size hb⟩, ⟨blk_below hH.2.1.out hb⟩, ⟨blk_below hH.2.2.1.out hb⟩, ⟨blk_below hH.2.2.2.1.out hb⟩, ⟨blk_below hH.2.2.2.2.out hb⟩⟩ (fun hH1 => ?_)
       replace hrd := Kd.R_below hrd hb
       clear hK K hb hH
       have hH := hH1
       clear hH1
       try simp only [bool_to_prop]
       refine wpAnyH_ready (rs := [7]) (by kernel_rfl) (by simp) ?_
       refine AllReadyH.cons (i := 7) rfl ?_ AllReadyH.nil
       intro K hK
       rw [if_pos (by rfl)]
       go_simp
       go_wp2_with (first | (go_at_call 109; (with_reducible refine (AT2.out _).mono ?_); rintro e W2 ⟨rfl, hb⟩))
       refine hK.out _ _ ⟨⟨below_then hH.1.out hH.1.out.size hb⟩, ⟨blk_below hH.2.1.out hb⟩, ⟨blk_below hH.2.2.1.out hb⟩, ⟨blk_below hH.2.2.2.1.out hb⟩, ⟨blk_below hH.2.2.2.2.out hb⟩⟩ (fun hH1 => ?_)
       replace hrd := Kd.R_below hrd hb
       clear hK K hb hH
       have hH := hH1
       clear hH1
       try simp only [bool_to_prop]
       refine wpAnyH_ready (rs := [8]) (by kernel_rfl) (by simp) ?_
       refine AllReadyH.cons (i := 8) rfl ?_ AllReadyH.nil
       intro K hK
       rw [if_pos (by rfl)]
       refine copyAt_wp (.tmp 45) (.tmp 49) 22 22 rfl Try.underlying22 gr cr j.toNat D (pixT d2 j p) _ _ _ n _ w.heap.size (fun k => k = gr) rfl rfl HDn.out hrd (HP2.out _ hH.1.out) HF.out ?_
       intro w5 hr5 hbg hg5
       have hb5 : Below w.heap.size w w5 := hH.1.out.grown hg5 hH.1.out.size (fun k hk => by injection hk with hk; omega)
       have hk7 : w5.heap[w4.heap.size]? = some (.cells #[.int .i64 a, .int .i64 b, .int .i64 p, .slice (some ⟨gr, 0, none⟩) n cr] 27 (0, 0)) := (hg5.block _ (blk_lt hH.2.1.out) (by intro e; injection e with e; have := GL.out; omega)).trans hH.2.1.out
       have hk2 : w5.heap[g2]? = some (.cells #[.int .i64 a, .int .i64 b, .int .i64 p, .slice A2 d2.length c2] 27 (0, 0)) := (hg5.block _ (blk_lt hH.2.2.1.out) (by intro e; injection e with e; have := GR.out; have := blk_lt K2c.out; omega)).trans hH.2.2.1.out
       have hk9 : w5.heap[wo.heap.size]? = some (.cells #[.int .i64 (X : Int), .int .i64 (Y : Int), .int .i64 (Wd : Int), .int .i64 (Hg : Int)] 47 (0, 0)) := (hg5.block _ (blk_lt hH.2.2.2.1.out) (by intro e; injection e with e; have := GL.out; omega)).trans hH.2.2.2.1.out
       have hk3 : w5.heap[g3]? = some (.cells #[.int .i64 0, .int .i64 0, .int .i64 0, .slice none 0 0] 27 (0, 0)) := (hg5.block _ (blk_lt hH.2.2.2.2.out) (by intro e; injection e with e; have := GR.out; omega)).trans hH.2.2.2.2.out
       refine hK.out _ _ ⟨⟨hb5⟩, ⟨hk7⟩, ⟨hk2⟩, ⟨hk9⟩, ⟨hk3⟩⟩ (fun hH1 => ?_)
       clear hK K hH hrd hb5 hk7 hk2 hk9 hk3 hg5
       obtain ⟨hb, h7, h2, h9, h3⟩ := hH1
       try simp only [bool_to_prop]
       refine wpAnyH_done (by kernel_rfl) ?_ _
       go_wp2
       exact ⟨⟨x + 1, by go_num, by omega, by omega, ⟨laidOver D j.toNat (pixT d2 j p), ⟨by rw [show x + 1 - X = (x - X) + 1 by omega, putX_succ, ← HD2.out, show X + (x - X) = x by omega]; unfold put1; rw [HJ.out]⟩, ⟨by rw [laidOver_length _ _ _ (by rw [HPL.out, ← HDn.out]; exact HF.out)]; exact HDn.out⟩, hr5⟩, h9, h7, h2, h3, hb⟩, by simp [intOf]; omega⟩
      have hdx : decide ((x : Int) < (X : Int) + (Wd : Int)) = false := by simp; omega
      have hxe : x = X + Wd := by omega
      subst hxe
      go_wp2
      go_roundw
      case rel => exact ⟨y + 1, by go_num, by omega, by omega, ⟨D, ⟨by rw [HD2.out, HD1.out, Nat.add_sub_cancel_left, show y + 1 - Y = (y - Y) + 1 by omega, putB_succ, show Y + (y - Y) = y by omega]⟩, HDn, hr⟩, h9, h7, h2, h3, hb⟩
      case measure => simp [intOf]; omega
    have hdy : decide ((y : Int) < (Y : Int) + (Hg : Int)) = false := by simp; omega
    have hye : y = Y + Hg := by omega
    subst hye
    go_wp2
    go_roundw
    case rel => exact ⟨k + 1, by go_num, by omega, ⟨D1, ⟨by rw [HD1.out, HGS.out, Nat.add_sub_cancel_left]⟩, HDn, hr⟩, h7, h2, h3, hb⟩
    case measure => simp [intOf]; omega
  have hdk : decide ((k : Int) < (l.length : Int)) = false := by simp; omega
  have hkl : k = l.length := by omega
  subst hkl
  have HB3o := h3.out
  have H7o := h7.out
  have m0 := blk_cell h7.out 0; have m1 := blk_cell h7.out 1; have m2 := blk_cell h7.out 2; have m3 := blk_cell h7.out 3
  have z0 := blk_cell h3.out 0; have z1 := blk_cell h3.out 1; have z2 := blk_cell h3.out 2; have z3 := blk_cell h3.out 3
  have y0 := blk_frozen h3.out 0; have y1 := blk_frozen h3.out 1; have y2 := blk_frozen h3.out 2; have y3 := blk_frozen h3.out 3
  go_wp2
  refine bodyPost_ret (results_cell_row rfl _ _ g3 27 #[.int .i64 a, .int .i64 b, .int .i64 p, .slice (some ⟨gr, 0, none⟩) n cr] (0, 0) _ rfl (by
   refine blk_put (cs := #[.int .i64 a, .int .i64 b, .int .i64 p, .slice none 0 0]) ?_ 3 _ rfl
   refine blk_put (cs := #[.int .i64 a, .int .i64 b, .int .i64 0, .slice none 0 0]) ?_ 2 _ rfl
   refine blk_put (cs := #[.int .i64 a, .int .i64 0, .int .i64 0, .slice none 0 0]) ?_ 1 _ rfl
   refine blk_put (cs := #[.int .i64 0, .int .i64 0, .int .i64 0, .slice none 0 0]) ?_ 0 _ rfl
   exact HB3o
   ) hu rfl (by kernel_rfl)) rfl ?_
  have SB := hb.out.size
  exact ⟨_, rfl, Kd.R_mono (Kd.R_far (Kd.R_far (Kd.R_far (Kd.R_far (by rw [List.take_length] at HD0; rw [← HD0.out]; exact hr) (fun k hk => by subst hk; have := GR.out; simp; omega) _) (fun k hk => by subst hk; have := GR.out; simp; omega) _) (fun k hk => by subst hk; have := GR.out; simp; omega) _) (fun k hk => by subst hk; have := GR.out; simp; omega) _) (fun _ _ => trivial), below_set (below_set (below_set (below_set hb.out (by omega)) (by omega)) (by omega)) (by omega)⟩
theorem impl_patched.calls (a b p : Int) (A1 : Option Addr) (c1 : Nat) (d1 : List Int) (a2 b2 p2 : Int) (A2 : Option Addr) (c2 : Nat) (d2 : List Int) (A3 : Option Addr) (c3 : Nat) (l : List S47) (r1 r2 r3 : Int) (r4 : List Int) (w : World) (hr1 : Kd.C (Kd.int .i64) w A1 d1.length d1) (hc1 : d1.length ≤ c1) (hr2 : Kd.C (Kd.int .i64) w A2 d2.length d2) (hc2 : d2.length ≤ c2) (hr3 : Kd.C k47 w A3 l.length l) (hc3 : l.length ≤ c3) (h : impl_patched.f a b p d1 a2 b2 p2 d2 l = some (r1, r2, r3, r4)) :
  Calls Try.prog 125 #[.agg #[.int .i64 a, .int .i64 b, .int .i64 p, .slice A1 d1.length c1], .agg #[.int .i64 a2, .int .i64 b2, .int .i64 p2, .slice A2 d2.length c2], .slice A3 l.length c3] w fun e w' => ∃ v3_ : Value, e = .returned (.agg #[.int .i64 r1, .int .i64 r2, .int .i64 r3, v3_]) ∧ Kd.R (Kd.int .i64) 3 w' w.heap.size (fun _ => True) v3_ r4 ∧ Below w.heap.size w w' := by
 unfold impl_patched.f at h
 by_cases hc : validI a b p d1 = true ∧ validI a b p d2 = true ∧ a2 = a ∧ b2 = b ∧ p2 = p ∧ l.all (onB a b) = true
 ·rw [if_pos hc] at h
  obtain ⟨hv1, hv2, rfl, rfl, rfl, hl⟩ := hc
  obtain ⟨rfl, rfl, rfl, rfl⟩ : a2 = r1 ∧ b2 = r2 ∧ p2 = r3 ∧ patchD a2 p2 d2 l d1 = r4 := by simpa using h
  exact patched_go a2 b2 p2 A1 A2 A3 c1 c2 c3 d1 d2 l hv1 hv2 (List.all_eq_true.1 hl) hc1 hc2 w hr1 hr2 hr3
 rw [if_neg hc] at h; cases h
end Go.Proofs.Ytnofkbbcbpjhfaa.Q
