/- A part of the proof that the statement FnExactShiftRegionSaid holds, under no condition of its own: The program's ShiftRegion and the reference's return the same, and what is returned is held by nobody else: over lists of numbers alone. -/
import Derived.Test.YtfgeickfheogoaaCFnExactShiftRegion1
import Derived.Deep.Slices
import Derived.Deep.Fields
import Derived.ChangeSame
import Derived.ProofKit
import Derived.OpenShut
import Derived.ShutString
import Derived.ChangeOld
import Derived.SizedLaws
import GoSem.Claim
import Derived.Test.YtfgeickfheogoaaCFnExactShiftRegion2
import Derived.OrdersHeld
import Derived.Deep.RegionHeld
import Derived.Test.YtfgeickfheogoaaRows
import Derived.JoinedOf
import Derived.KernelRfl
import Derived.WalkKit
import Derived.Below
import Derived.Carry
/- What an argument's reading as data tells: numbers, bools, slices and structs of them, by their kinds. -/
namespace Go.Proofs.Ytfgeickfheogoaa.Q
open Go.RowKit Go.Proofs.YtfgeickfheogoaaW.PrintWords Go.Proofs.YtfgeickfheogoaaW.PrintLast Go.Proofs.YtfgeickfheogoaaW.PrintMore
attribute [local go_sem] max2_int min2_int max_two min_two max_three min_three max_four min_four
set_option linter.unusedVariables false
set_option linter.unusedSimpArgs false
open Go.ChangeShapes Go.WideShapes Go.Deep

/-- A number of 64 bits. -/
def I64 (n : Int) : Prop := -9223372036854775808 ≤ n ∧ n ≤ 9223372036854775807
theorem i64_of (n : Int) (h : (Lit.int .i64 n).wf = true) : I64 n := by
  simp only [Lit.wf, Bool.and_eq_true, decide_eq_true_eq] at h
  have e1 : IntKind.min .i64 = -9223372036854775808 := by decide
  have e2 : IntKind.max .i64 = 9223372036854775807 := by decide
  unfold I64
  omega
/-- Whatever reads at type t as data is a y of this kind, of which Q holds. -/
def Opens {α : Type} (P : Program) (t : TypeId) (d : Kd α) (Q : α → Prop) : Prop :=
  ∀ (H : Type) (enc : TypeId × Value → H) (w : World) (fuel : Nat) (cs : List Value) (x : DataW H × List MemPlace),
    DataW.trod enc P w 0 (fun _ => true) true fuel t cs = some x → ∃ y : α, d.K w y cs ∧ Q y
section
variable {P : Program} {t : TypeId} {α β : Type}
theorem opens_i64 (ht : P.underlying t = some (.int .i64)) : Opens P t (Kd.int .i64) I64 := by
  intro H enc w fuel cs x h
  obtain ⟨n, rfl, _, hw⟩ := DataW.trod_int ht h
  exact ⟨n, rfl, i64_of n hw⟩
theorem opens_bool (ht : P.underlying t = some .bool) : Opens P t Kd.bool (fun _ => True) := by
  intro H enc w fuel cs x h
  obtain ⟨b, rfl, _⟩ := DataW.trod_bool ht h
  exact ⟨b, rfl, trivial⟩
theorem opens_slice {e : TypeId} {d : Kd α} {Q : α → Prop} (ht : P.underlying t = some (.slice e)) (hc : P.cellsOf e = d.sz) (ho : Opens P e d Q) :
    Opens P t (Kd.slice e d) (fun l => ∀ x ∈ l, Q x) := by
  intro H enc w fuel cs x h
  rcases open_slice ht h with ⟨rfl, _⟩ | ⟨a, len, cap, m, n, D, Pl, rfl, _, hl, hm, hmm, _, hi⟩
  · exact ⟨[], ⟨none, 0, rfl, Nat.le_refl _, rfl, by simp, fun h0 => absurd h0 (by simp)⟩, fun x hx => absurd hx (by simp)⟩
  · have hmc : m = cap := by simpa using hmm
    subst hmc
    have each : ∀ i, i < len → ∃ y : α, (∃ c, c.length = d.sz ∧ d.K w y c ∧ ∀ j u, c[j]? = some u → w.cell? (a.add (i * d.sz + j)) = some u) ∧ Q y := by
      intro i hil
      obtain ⟨cs', hcs, htr⟩ := hi i (by omega)
      rw [hc] at hcs
      obtain ⟨_, hcl, hat⟩ := World.cells?_some hcs
      obtain ⟨y, hK, hQ⟩ := ho H enc w n cs' _ htr
      refine ⟨y, ⟨cs', hcl, hK, fun j u hu => ?_⟩, hQ⟩
      have hj : j < d.sz := by rw [← hcl]; exact (List.getElem?_eq_some_iff.1 hu).1
      rw [← Go.Deep.add_add, hat j hj, hu]
    have hY : ∃ ys : List α, ys.length = len ∧ ∀ i, i < len → ∃ y, ys[i]? = some y ∧ (∃ c, c.length = d.sz ∧ d.K w y c ∧ ∀ j u, c[j]? = some u → w.cell? (a.add (i * d.sz + j)) = some u) ∧ Q y := by
      have key : ∀ q, q ≤ len → ∃ ys : List α, ys.length = q ∧ ∀ i, i < q → ∃ y, ys[i]? = some y ∧ (∃ c, c.length = d.sz ∧ d.K w y c ∧ ∀ j u, c[j]? = some u → w.cell? (a.add (i * d.sz + j)) = some u) ∧ Q y := by
        intro q
        induction q with
        | zero => intro _; exact ⟨[], rfl, fun i hi' => absurd hi' (by omega)⟩
        | succ q ih =>
          intro hq
          obtain ⟨ys, hyl, hys⟩ := ih (by omega)
          obtain ⟨y, hy⟩ := each q (by omega)
          refine ⟨ys ++ [y], by simp [hyl], fun i hi' => ?_⟩
          by_cases e : i = q
          · subst e
            exact ⟨y, by rw [List.getElem?_append_right (by omega)]; simp [hyl], hy⟩
          · obtain ⟨z, hz, hz2⟩ := hys i (by omega)
            exact ⟨z, by rw [List.getElem?_append_left (by omega)]; exact hz, hz2⟩
      exact key len (Nat.le_refl _)
    obtain ⟨ys, hyl, hys⟩ := hY
    refine ⟨ys, ⟨some a, m, by rw [hyl], by omega, rfl, by rw [hyl]; simp only [maxLen] at hm; omega, fun _ => ⟨a, rfl, fun j p hj => ?_⟩⟩, fun x hx => ?_⟩
    · have hjl : j < len := by rw [← hyl]; exact (List.getElem?_eq_some_iff.1 hj).1
      obtain ⟨y, hy, hc2, _⟩ := hys j hjl
      rw [hy] at hj
      obtain rfl := Option.some.inj hj
      exact hc2
    · obtain ⟨j, hj, rfl⟩ := List.getElem_of_mem hx
      obtain ⟨y, hy, _, hq⟩ := hys j (by omega)
      rw [List.getElem?_eq_getElem hj] at hy
      obtain rfl := Option.some.inj hy
      exact hq
/-- Fields in line, from the cell 'off' on. -/
def OpensF (P : Program) (fs : List Field) (off : Nat) (d : Kd α) (Q : α → Prop) : Prop :=
  ∀ (H : Type) (enc : TypeId × Value → H) (w : World) (n : Nat) (cs : List Value), cs.length = off + d.sz →
    (∀ f ∈ fs, ∃ x, DataW.trod enc P w 0 (fun _ => true) true n f.type ((cs.drop f.offset).take (P.cellsOf f.type)) = some x) → ∃ y : α, d.K w y (cs.drop off) ∧ Q y
theorem opensF_one {f : Field} {off : Nat} {d : Kd α} {Q : α → Prop} (ho : f.offset = off) (hc : P.cellsOf f.type = d.sz) (h : Opens P f.type d Q) : OpensF P [f] off d Q := by
  intro H enc w n cs hl hf
  obtain ⟨x, hx⟩ := hf f (by simp)
  rw [ho, hc, List.take_of_length_le (by rw [List.length_drop]; omega)] at hx
  exact h H enc w n _ _ hx
theorem opensF_cons {f : Field} {fs : List Field} {off : Nat} {d : Kd α} {Q : α → Prop} {d' : Kd β} {Q' : β → Prop} (ho : f.offset = off) (hc : P.cellsOf f.type = d.sz) (h : Opens P f.type d Q) (h' : OpensF P fs (off + d.sz) d' Q') :
    OpensF P (f :: fs) off (Kd.pair d d') (fun p => Q p.1 ∧ Q' p.2) := by
  intro H enc w n cs hl hf
  have hl' : cs.length = off + (d.sz + d'.sz) := hl
  obtain ⟨x, hx⟩ := hf f (by simp)
  rw [ho, hc] at hx
  obtain ⟨y, hK, hQ⟩ := h H enc w n _ _ hx
  obtain ⟨y', hK', hQ'⟩ := h' H enc w n cs (by omega) (fun g hg => hf g (by simp [hg]))
  refine ⟨(y, y'), ⟨(cs.drop off).take d.sz, cs.drop (off + d.sz), ?_, hK, hK'⟩, hQ, hQ'⟩
  rw [← List.drop_drop, List.take_append_drop]
theorem opens_struct {fs : Array Field} {d : Kd α} {Q : α → Prop} (ht : P.underlying t = some (.struct fs)) (hc : P.cellsOf t = d.sz) (h : OpensF P fs.toList 0 d Q) : Opens P t d Q := by
  intro H enc w fuel cs x hx
  obtain ⟨xs, n, _, _, hcl, hxl, hg⟩ := DataW.trod_struct ht hx
  obtain ⟨y, hK, hQ⟩ := h H enc w n cs (by omega) (fun f hf => by
    obtain ⟨i, hi, rfl⟩ := List.getElem_of_mem hf
    have hi' : i < fs.size := by simpa using hi
    have h1 := hg i (fs.toList[i]) (by simp [hi'])
    rw [List.getElem?_eq_getElem (by omega)] at h1
    exact ⟨_, h1⟩)
  exact ⟨y, by simpa using hK, hQ⟩
theorem opens_iso {d : Kd α} {Q : α → Prop} (f : β → α) (g : α → β) (hfg : ∀ a, f (g a) = a) (h : Opens P t d Q) : Opens P t (Kd.iso d f) (fun b => Q (f b)) := by
  intro H enc w fuel cs x hx
  obtain ⟨y, hK, hQ⟩ := h H enc w fuel cs x hx
  refine ⟨g y, ?_, ?_⟩
  · show d.K w (f (g y)) cs
    rw [hfg]; exact hK
  · show Q (f (g y))
    rw [hfg]; exact hQ
end
end Go.Proofs.Ytfgeickfheogoaa.Q

/- What is known of structs that came in. -/
namespace Go.Proofs.Ytfgeickfheogoaa.Q
open Go.RowKit Go.Proofs.YtfgeickfheogoaaW.PrintWords Go.Proofs.YtfgeickfheogoaaW.PrintLast Go.Proofs.YtfgeickfheogoaaW.PrintMore
attribute [local go_sem] max2_int min2_int max_two min_two max_three min_three max_four min_four
set_option linter.unusedVariables false
set_option linter.unusedSimpArgs false
def wf59 (x : S59) : Prop := I64 x.f0 ∧ I64 x.f1 ∧ I64 x.f2
theorem o59 : Opens Try.prog 59 k59 wf59 :=
  opens_iso (fun x : S59 => (x.f0, x.f1, x.f2)) (fun p => (⟨p.1, p.2.1, p.2.2⟩ : S59)) (fun _ => rfl) (opens_struct Try.underlying59 (by kernel_rfl) (opensF_cons rfl (by kernel_rfl) (opens_i64 Try.underlying3) (opensF_cons rfl (by kernel_rfl) (opens_i64 Try.underlying3) (opensF_one rfl (by kernel_rfl) (opens_i64 Try.underlying3)))))
def wf33 (x : S33) : Prop := I64 x.f0 ∧ I64 x.f1 ∧ I64 x.f2 ∧ I64 x.f3
theorem o33 : Opens Try.prog 33 k33 wf33 :=
  opens_iso (fun x : S33 => (x.f0, x.f1, x.f2, x.f3)) (fun p => (⟨p.1, p.2.1, p.2.2.1, p.2.2.2⟩ : S33)) (fun _ => rfl) (opens_struct Try.underlying33 (by kernel_rfl) (opensF_cons rfl (by kernel_rfl) (opens_i64 Try.underlying3) (opensF_cons rfl (by kernel_rfl) (opens_i64 Try.underlying3) (opensF_cons rfl (by kernel_rfl) (opens_i64 Try.underlying3) (opensF_one rfl (by kernel_rfl) (opens_i64 Try.underlying3))))))
end Go.Proofs.Ytfgeickfheogoaa.Q

/- The statement over plain lists and numbers that is left of the law FnExactShiftRegion. -/
namespace Go.Proofs.Ytfgeickfheogoaa.Q
open Go.RowKit Go.Proofs.YtfgeickfheogoaaW.PrintWords Go.Proofs.YtfgeickfheogoaaW.PrintLast Go.Proofs.YtfgeickfheogoaaW.PrintMore
attribute [local go_sem] max2_int min2_int max_two min_two max_three min_three max_four min_four
set_option linter.unusedVariables false
set_option linter.unusedSimpArgs false
def laws_FnExactShiftRegion.Pure : Prop := ∀ (l0 : List (S59)) (a1 : Int) (a2 : Int), (∀ y ∈ l0, wf59 y) → l0.length ≤ 9223372036854775807 → I64 a1 → I64 a2 → ∃ k, laws_FnExactShiftRegion.f k l0 a1 a2 = some true
end Go.Proofs.Ytfgeickfheogoaa.Q

/- Grids and their runs, as the reference has them: lists of 256 bools. -/
namespace Go.Proofs.Ytfgeickfheogoaa.Pure
open Go.RowKit Go.Proofs.Ytfgeickfheogoaa.Q Go.Proofs.YtfgeickfheogoaaW.PrintWords Go.Proofs.YtfgeickfheogoaaW.PrintLast Go.Proofs.YtfgeickfheogoaaW.PrintMore
set_option linter.unusedVariables false
set_option linter.unusedSimpArgs false

/-- A grid as a list. -/
def tab (g : Nat → Bool) : List Bool := (List.range 256).map g
theorem tab_length (g : Nat → Bool) : (tab g).length = 256 := by simp [tab]
theorem tab_get (g : Nat → Bool) (i : Nat) (h : i < 256) : rdOf false (tab g) (i : Int) = g i := by
  simp [rdOf, tab, List.getD_eq_getElem?_getD, h]
theorem tab_set (g : Nat → Bool) (i : Nat) (b : Bool) : (tab g).set i b = tab (fun p => if p = i then b else g p) := by
  apply List.ext_getElem
  · simp [tab]
  · intro j h1 h2
    rw [List.getElem_set]
    simp only [tab, List.getElem_map, List.getElem_range]
    by_cases e : i = j
    · rw [if_pos e, if_pos e.symm]
    · rw [if_neg e, if_neg (fun h => e h.symm)]
theorem tab_congr {g g' : Nat → Bool} (h : ∀ p, p < 256 → g p = g' p) : tab g = tab g' := by
  unfold tab
  apply List.map_congr_left
  intro p hp
  exact h p (by simpa using hp)
theorem tab_false : List.replicate 256 false = tab (fun _ => false) := by
  refine List.ext_getElem (by rw [List.length_replicate, tab_length]) (fun j h1 h2 => ?_)
  rw [List.getElem_replicate]
  simp only [tab, List.getElem_map]
/-- a grid's cells beyond 256 do not matter to its runs -/
theorem endAt_congr {g g' : Nat → Bool} (h : ∀ p, p < 256 → g p = g' p) (y : Nat) (hy : y < 16) : ∀ n x, endAt g y n x = endAt g' y n x := by
  intro n
  induction n with
  | zero => intro x; rfl
  | succ n ih =>
    intro x
    unfold endAt
    by_cases hx : x < 16
    · rw [h (y * 16 + x) (by omega), ih (x + 1)]
    · rw [if_neg (fun c => hx c.1), if_neg (fun c => hx c.1)]
theorem scan_congr {g g' : Nat → Bool} (h : ∀ p, p < 256 → g p = g' p) (y : Nat) (hy : y < 16) : ∀ d x, 17 ≤ x + d → scanRow g y x = scanRow g' y x := by
  intro d
  induction d with
  | zero => intro x hx; rw [scan_end g y x (by omega), scan_end g' y x (by omega)]
  | succ d ih =>
    intro x hx
    by_cases h16 : x < 16
    · cases hv : g (y * 16 + x) with
      | true =>
        have hv' : g' (y * 16 + x) = true := by rw [← h _ (by omega)]; exact hv
        have := endAt_ge g y (16 - x) x
        rw [scan_true g y x h16 hv, scan_true g' y x h16 hv', endAt_congr h y hy, ih _ (by rw [← endAt_congr h y hy]; omega)]
      | false =>
        have hv' : g' (y * 16 + x) = false := by rw [← h _ (by omega)]; exact hv
        rw [scan_false g y x h16 hv, scan_false g' y x h16 hv', ih _ (by omega)]
    · rw [scan_end g y x (by omega), scan_end g' y x (by omega)]
theorem runsL_congr {g g' : Nat → Bool} (h : ∀ p, p < 256 → g p = g' p) : runsL g = runsL g' := by
  unfold runsL runsTo
  rw [List.flatMap_def, List.flatMap_def]
  congr 1
  apply List.map_congr_left
  intro y hy
  exact scan_congr h y (by simpa using hy) 17 0 (by omega)
/-! the reference's grid -/
theorem spec_gridOf_ev (l : List Run) (hl : l.length ≤ 1000000000) (hok : ∀ r ∈ l, 0 ≤ r.f0 ∧ r.f0 < 16 ∧ 0 ≤ r.f1 ∧ r.f2 ≤ 16) : Ev (fun k => spec_gridOf.f k l) (tab (gridF l)) := by
  have key := ev_up2 l.length (fun k i (s : List Bool) => spec_gridOf.l0 k l s (i : Int)) (fun i s => s = tab (gridF (l.take i))) (fun _ _ => tab (gridF l))
    (by
      intro i s hi hs
      right
      have ho := hok l[i] (List.getElem_mem hi)
      refine ⟨tab (gridF (l.take (i + 1))), fun r hr => ?_, rfl, rfl⟩
      have inner : ∀ d x : Nat, l[i].f1 ≤ (x : Int) → ((x : Int) + d = l[i].f2 ∨ (d = 0 ∧ l[i].f2 ≤ x ∧ (x : Int) = l[i].f1)) →
          Ev (fun k => spec_gridOf.l1 k l (tab (fun p => gridF (l.take i) p || runTo l[i] x p)) (i : Int) (x : Int)) r := by
        intro d
        induction d with
        | zero =>
          intro x hx hd
          have he : tab (fun p => gridF (l.take i) p || runTo l[i] x p) = tab (gridF (l.take (i + 1))) := by
            apply tab_congr
            intro p _
            rw [gridF_succ l i hi]
            congr 1
            unfold runTo runIn
            by_cases c : l[i].f1 ≤ ((p % 16 : Nat) : Int)
            · congr 1
              rw [decide_eq_decide]
              omega
            · rw [decide_eq_false c, Bool.and_false, Bool.false_and, Bool.false_and]
          refine Ev.step (fun k => ?_) hr
          simp only [spec_gridOf.l1]
          rw [if_pos (by omega), if_pos (by omega), rdRun l i hi, if_neg (by omega), w64n i (by omega), he]
        | succ d ih =>
          intro x hx hd
          have hx16 : x < 16 := by omega
          obtain ⟨Y, hY⟩ := Int.eq_ofNat_of_zero_le ho.1
          have hs' : (tab (fun p => gridF (l.take i) p || runTo l[i] x p)).set (Y * 16 + x) true = tab (fun p => gridF (l.take i) p || runTo l[i] (x + 1) p) := by
            rw [tab_set]
            exact tab_congr (fun p _ => runTo_step l[i] Y x hY hx16 hx _ p)
          have hn := ih (x + 1) (by omega) (by omega)
          refine Ev.step (fun k => ?_) hn
          simp only [spec_gridOf.l1]
          have e1 : wrap64 (wrap64 (l[i].f0 * 16) + (x : Int)) = ((Y * 16 + x : Nat) : Int) := by
            rw [hY, w64 (x := (Y : Int) * 16) (by omega) (by omega), w64 (x := (Y : Int) * 16 + (x : Int)) (by omega) (by omega)]; omega
          rw [if_pos (by omega), if_pos (by omega), rdRun l i hi, if_pos (by omega), e1, if_pos (by omega), tab_length, if_pos (by omega), Int.toNat_natCast, hs', w64n x (by omega)]
      obtain ⟨F, hF⟩ := Int.eq_ofNat_of_zero_le ho.2.2.1
      have h0 : Ev (fun k => spec_gridOf.l1 k l (tab (fun p => gridF (l.take i) p || runTo l[i] F p)) (i : Int) (F : Int)) r := by
        by_cases c : l[i].f1 ≤ l[i].f2
        · exact inner (l[i].f2 - l[i].f1).toNat F (by omega) (.inl (by omega))
        · exact inner 0 F (by omega) (.inr ⟨rfl, by omega, by omega⟩)
      have he : tab (fun p => gridF (l.take i) p || runTo l[i] F p) = s := by
        rw [hs]
        apply tab_congr
        intro p _
        have : runTo l[i] F p = false := by
          unfold runTo
          rw [hF]
          by_cases c : ((F : Nat) : Int) ≤ ((p % 16 : Nat) : Int)
          · rw [decide_eq_false (show ¬ p % 16 < F by omega), Bool.and_false]
          · rw [decide_eq_false c, Bool.and_false, Bool.false_and]
        rw [this, Bool.or_false]
      rw [he] at h0
      refine Ev.step (fun k => ?_) h0
      simp only [spec_gridOf.l0]
      rw [if_pos (by omega), if_pos (by omega), rdRun l i hi, hF])
    (by
      intro s hs
      refine Ev.step (f := fun _ => some s) (fun k => ?_) (ev_val (Ev.now s) (by rw [hs, List.take_length]))
      simp only [spec_gridOf.l0]
      rw [if_neg (by omega)])
    l.length 0 (tab (gridF (l.take 0))) (by omega) rfl
  unfold spec_gridOf.f
  refine Ev.congr (fun k => ?_) key
  rw [if_pos (by omega), tab_false]
  rfl
/-! the reference's runs -/
def rowRest (g : Nat → Bool) (y x : Nat) (from_ : Int) : List Run :=
  if from_ < 0 then scanRow g y x else ⟨(y : Int), from_, (endAt g y (16 - x) x : Nat)⟩ :: scanRow g y (endAt g y (16 - x) x + 1)
theorem spec_runsOf_ev (g : Nat → Bool) : Ev (fun k => spec_runsOf.f k (tab g)) (runsL g) := by
  have key := ev_up2 16 (fun k y (s : List Run) => spec_runsOf.l0 k (tab g) s (y : Int)) (fun y s => s = runsTo g y ∧ s.length ≤ 17 * y) (fun _ _ => runsL g)
    (by
      intro y s hy hs
      right
      have inner : ∀ r, (∀ acc : List Run, acc = runsTo g (y + 1) → acc.length ≤ 17 * (y + 1) → Ev (fun k => spec_runsOf.l0 k (tab g) acc ((y + 1 : Nat) : Int)) r) →
          Ev (fun k => spec_runsOf.l1 k (tab g) s (y : Int) (-1) 0) r := by
        intro r hnext
        have h := ev_up2 17 (fun k x (q : List Run × Int) => spec_runsOf.l1 k (tab g) q.1 (y : Int) q.2 (x : Int))
          (fun x q => q.1 ++ rowRest g y x q.2 = runsTo g (y + 1) ∧ q.1.length ≤ 17 * y + x ∧ (q.2 = -1 ∨ (0 ≤ q.2 ∧ q.2 < x ∧ x ≤ 16))) (fun _ _ => r)
          (by
            intro x q hx hq
            obtain ⟨acc, fr⟩ := q
            obtain ⟨h1, h2, h3⟩ := hq
            simp only at h1 h2 h3
            right
            have j3 : ∀ (b : Bool), (x < 16 → b = g (y * 16 + x)) → (x = 16 → b = false) → ∃ s' : List Run × Int,
                (∀ r, Ev (fun k => spec_runsOf.l1 k (tab g) s'.1 (y : Int) s'.2 ((x + 1 : Nat) : Int)) r → Ev (fun k => spec_runsOf.j2 k (tab g) acc (y : Int) fr (x : Int) b) r) ∧
                (s'.1 ++ rowRest g y (x + 1) s'.2 = runsTo g (y + 1) ∧ s'.1.length ≤ 17 * y + (x + 1) ∧ (s'.2 = -1 ∨ (0 ≤ s'.2 ∧ s'.2 < ((x + 1 : Nat) : Int) ∧ x + 1 ≤ 16))) := by
              intro b hb hb16
              rcases h3 with h3 | h3
              · subst h3
                cases b with
                | true =>
                  have hx16 : x < 16 := by
                    by_cases c : x = 16
                    · have := hb16 c; cases this
                    · omega
                  refine ⟨(acc, (x : Int)), fun r hr => ?_, ?_, by simp only; omega, .inr (by simp only; omega)⟩
                  · refine Ev.step (f := fun k => spec_runsOf.j3 k (tab g) acc (y : Int) (-1) (x : Int) true true) (fun k => ?_) (Ev.step (fun k => ?_) hr)
                    · simp only [spec_runsOf.j2]; simp
                    · simp only [spec_runsOf.j3]
                      rw [if_pos trivial, if_pos trivial, w64n x (by omega)]
                  · have hv := (hb hx16).symm
                    rw [← h1]
                    show acc ++ rowRest g y (x + 1) (x : Int) = acc ++ rowRest g y x (-1)
                    unfold rowRest
                    rw [if_neg (by omega), if_pos (by omega), scan_true g y x hx16 hv, endAt_step g y x hx16 hv]
                | false =>
                  refine ⟨(acc, -1), fun r hr => ?_, ?_, by simp only; omega, .inl rfl⟩
                  · refine Ev.step (f := fun k => spec_runsOf.j3 k (tab g) acc (y : Int) (-1) (x : Int) false false) (fun k => ?_) (Ev.step (fun k => ?_) hr)
                    · simp only [spec_runsOf.j2]; simp
                    · simp only [spec_runsOf.j3]
                      rw [if_neg (by simp), if_neg (by simp), if_neg (by omega), w64n x (by omega)]
                  · rw [← h1]
                    show acc ++ rowRest g y (x + 1) (-1) = acc ++ rowRest g y x (-1)
                    unfold rowRest
                    rw [if_pos (by omega), if_pos (by omega)]
                    by_cases c : x < 16
                    · rw [scan_false g y x c (hb c).symm]
                    · rw [scan_end g y x (by omega), scan_end g y (x + 1) (by omega)]
              · cases b with
                | true =>
                  have hx16 : x < 16 := by
                    by_cases c : x = 16
                    · have := hb16 c; cases this
                    · omega
                  refine ⟨(acc, fr), fun r hr => ?_, ?_, by simp only; omega, .inr (by simp only; omega)⟩
                  · refine Ev.step (f := fun k => spec_runsOf.j3 k (tab g) acc (y : Int) fr (x : Int) true false) (fun k => ?_) (Ev.step (fun k => ?_) hr)
                    · simp only [spec_runsOf.j2]
                      rw [if_pos trivial, decide_eq_false (show ¬ fr < 0 by omega)]
                    · simp only [spec_runsOf.j3]
                      rw [if_neg (by simp), if_pos trivial, w64n x (by omega)]
                  · have hv := (hb hx16).symm
                    rw [← h1]
                    show acc ++ rowRest g y (x + 1) fr = acc ++ rowRest g y x fr
                    unfold rowRest
                    rw [if_neg (by omega), if_neg (by omega), endAt_step g y x hx16 hv]
                | false =>
                  refine ⟨(acc ++ [⟨(y : Int), fr, (x : Int)⟩], -1), fun r hr => ?_, ?_, by simp; omega, .inl rfl⟩
                  · refine Ev.step (f := fun k => spec_runsOf.j3 k (tab g) acc (y : Int) fr (x : Int) false false) (fun k => ?_) (Ev.step (fun k => ?_) hr)
                    · simp only [spec_runsOf.j2]; simp
                    · simp only [spec_runsOf.j3]
                      rw [if_neg (by simp), if_neg (by simp), if_pos (by omega), if_pos (by omega), w64n x (by omega)]
                  · rw [← h1]
                    show acc ++ [⟨(y : Int), fr, (x : Int)⟩] ++ rowRest g y (x + 1) (-1) = acc ++ rowRest g y x fr
                    unfold rowRest
                    have hst : endAt g y (16 - x) x = x := endAt_stop g y x (by
                      by_cases c : x < 16
                      · right; exact (hb c).symm
                      · left; omega)
                    rw [if_pos (by omega), if_neg (by omega), hst]
                    simp
            by_cases hx16 : x < 16
            · obtain ⟨s', e1, e2⟩ := j3 (g (y * 16 + x)) (fun _ => rfl) (fun c => by omega)
              refine ⟨s', fun r hr => ?_, e2, rfl⟩
              refine Ev.step (fun k => ?_) (e1 r hr)
              simp only [spec_runsOf.l1]
              have e3 : wrap64 (wrap64 ((y : Int) * 16) + (x : Int)) = ((y * 16 + x : Nat) : Int) := by
                rw [w64 (x := (y : Int) * 16) (by omega) (by omega), w64 (x := (y : Int) * 16 + (x : Int)) (by omega) (by omega)]; omega
              rw [if_pos (by omega), if_pos (by omega), e3, if_pos (by omega), tab_length, if_pos (by omega), tab_get g _ (by omega)]
            · obtain ⟨s', e1, e2⟩ := j3 false (fun c => by omega) (fun _ => rfl)
              refine ⟨s', fun r hr => ?_, e2, rfl⟩
              refine Ev.step (fun k => ?_) (e1 r hr)
              simp only [spec_runsOf.l1]
              rw [if_pos (by omega), if_neg (by omega)])
          (by
            intro q hq
            obtain ⟨acc, fr⟩ := q
            obtain ⟨h1, h2, h3⟩ := hq
            simp only at h1 h2 h3
            have hf : fr = -1 := by omega
            subst hf
            have he : acc = runsTo g (y + 1) := by
              rw [← h1]
              unfold rowRest
              rw [if_pos (by omega), scan_end g y 17 (by omega), List.append_nil]
            refine Ev.step (fun k => ?_) (hnext acc he (by omega))
            simp only [spec_runsOf.l1]
            rw [if_neg (by omega), w64n y (by omega)])
          17 0 (s, -1) (by omega) ⟨by
            unfold rowRest
            rw [if_pos (by omega), hs.1, ← runsTo_succ], by have := hs.2; simp only; omega, .inl rfl⟩
        exact h
      have hlen : (runsTo g (y + 1)).length ≤ 17 * (y + 1) := by
        rw [runsTo_succ, List.length_append]
        have hsc : ∀ d x, 17 ≤ x + d → (scanRow g y x).length ≤ 17 - x := by
          intro d
          induction d with
          | zero => intro x hx; rw [scan_end g y x (by omega)]; simp
          | succ d ih =>
            intro x hx
            by_cases h16 : x < 16
            · cases hv : g (y * 16 + x) with
              | true =>
                have := endAt_ge g y (16 - x) x
                rw [scan_true g y x h16 hv, List.length_cons]
                have := ih (endAt g y (16 - x) x + 1) (by omega)
                omega
              | false =>
                rw [scan_false g y x h16 hv]
                have := ih (x + 1) (by omega)
                omega
            · rw [scan_end g y x (by omega)]; simp
        have h1 := hsc 17 0 (by omega)
        have h2 := hs.2
        rw [hs.1] at h2
        omega
      refine ⟨runsTo g (y + 1), fun r hr => ?_, ⟨rfl, hlen⟩, rfl⟩
      refine Ev.step (fun k => ?_) (inner r (fun acc ha _ => by rw [ha]; exact hr))
      simp only [spec_runsOf.l0]
      rw [if_pos (by omega)])
    (by
      intro s hs
      refine Ev.step (f := fun _ => some s) (fun k => ?_) (ev_val (Ev.now s) hs.1)
      simp only [spec_runsOf.l0]
      rw [if_neg (by omega)])
    16 0 [] (by omega) ⟨by simp [runsTo], by simp⟩
  exact key
end Go.Proofs.Ytfgeickfheogoaa.Pure

/- Pixels that are connected in a grid: what a search finds that begins at one of them. -/
namespace Go.Proofs.Ytfgeickfheogoaa.Q
open Go.RowKit Go.Proofs.YtfgeickfheogoaaW.PrintWords Go.Proofs.YtfgeickfheogoaaW.PrintLast Go.Proofs.YtfgeickfheogoaaW.PrintMore
attribute [local go_sem] max2_int min2_int max_two min_two max_three min_three max_four min_four
set_option linter.unusedVariables false
set_option linter.unusedSimpArgs false

/-- q and r are neighbours in a row or a column. -/
def Adj (q r : Nat) : Prop := (r = q + 1 ∧ q % 16 < 15) ∨ (q = r + 1 ∧ r % 16 < 15) ∨ r = q + 16 ∨ q = r + 16
inductive Reach (g : Nat → Bool) (s : Nat) : Nat → Prop
  | here : Reach g s s
  | step (q r : Nat) : Reach g s q → Adj q r → r < 256 → g r = true → Reach g s r
/-- The pixels that are connected with pixel s. -/
noncomputable def comp (g : Nat → Bool) (s q : Nat) : Bool := @decide (Reach g s q) (Classical.propDecidable _)
theorem comp_iff (g : Nat → Bool) (s q : Nat) : comp g s q = true ↔ Reach g s q := by
  unfold comp
  exact @decide_eq_true_iff _ (Classical.propDecidable _)
/-- A search from s: what has been seen, what is still to be looked at, and the neighbours of p that are still to be looked at. -/
structure Mid (g : Nat → Bool) (s : Nat) (out : Nat → Bool) (todo : List Nat) (p : Nat) (pend : List (Int × Int)) : Prop where
  start : out s = true
  reach : ∀ q, q < 256 → out q = true → Reach g s q
  todo_ok : ∀ q, q ∈ todo → q < 256 ∧ out q = true
  cur : p < 256 ∧ out p = true
  done : ∀ q r, q < 256 → r < 256 → out q = true → Adj q r → g r = true → out r = true ∨ q ∈ todo ∨ (q = p ∧ (((r % 16 : Nat) : Int), ((r / 16 : Nat) : Int)) ∈ pend)
theorem mid_init (g : Nat → Bool) (s : Nat) (hs : s < 256) : Mid g s (fun q => decide (q = s)) [s] s [] where
  start := by simp
  reach := fun q _ h => by
    have : q = s := by simpa using h
    subst this; exact .here
  todo_ok := fun q h => by
    have : q = s := by simpa using h
    subst this; exact ⟨hs, by simp⟩
  cur := ⟨hs, by simp⟩
  done := fun q r _ _ h _ _ => by
    have : q = s := by simpa using h
    right; left; simp [this]
theorem mid_pop {g : Nat → Bool} {s : Nat} {out : Nat → Bool} {todo todo' : List Nat} {p p0 : Nat} {pend : List (Int × Int)} (h : Mid g s out todo p0 []) (hp : p ∈ todo) (h1 : ∀ q, q ∈ todo → q = p ∨ q ∈ todo') (h2 : ∀ q, q ∈ todo' → q ∈ todo)
    (h3 : ∀ r, r < 256 → Adj p r → (((r % 16 : Nat) : Int), ((r / 16 : Nat) : Int)) ∈ pend) : Mid g s out todo' p pend where
  start := h.start
  reach := h.reach
  todo_ok := fun q hq => h.todo_ok q (h2 q hq)
  cur := h.todo_ok p hp
  done := fun q r hq hr ho ha hg => by
    rcases h.done q r hq hr ho ha hg with c | c | c
    · exact .inl c
    · rcases h1 q c with e | e
      · subst e; exact .inr (.inr ⟨rfl, h3 r hr ha⟩)
      · exact .inr (.inl e)
    · cases c.2
theorem hasP_iff (g : Nat → Bool) (x y : Int) : hasP g x y = true ↔ 0 ≤ x ∧ x < 16 ∧ 0 ≤ y ∧ y < 16 ∧ g (y.toNat * 16 + x.toNat) = true := by
  simp [hasP, and_assoc]
theorem hasP_nat (g : Nat → Bool) (r : Nat) (hr : r < 256) : hasP g ((r % 16 : Nat) : Int) ((r / 16 : Nat) : Int) = g r := by
  have e : r / 16 * 16 + r % 16 = r := by omega
  rw [Bool.eq_iff_iff, hasP_iff, Int.toNat_natCast, Int.toNat_natCast, e]
  constructor
  · intro h; exact h.2.2.2.2
  · intro h; exact ⟨by omega, by omega, by omega, by omega, h⟩
theorem mid_skip {g : Nat → Bool} {s : Nat} {out : Nat → Bool} {todo : List Nat} {p : Nat} {x y : Int} {pend : List (Int × Int)} (h : Mid g s out todo p ((x, y) :: pend)) (hc : hasP g x y = false ∨ out (y.toNat * 16 + x.toNat) = true) : Mid g s out todo p pend where
  start := h.start
  reach := h.reach
  todo_ok := h.todo_ok
  cur := h.cur
  done := fun q r hq hr ho ha hg => by
    rcases h.done q r hq hr ho ha hg with c | c | ⟨c1, c2⟩
    · exact .inl c
    · exact .inr (.inl c)
    · rcases List.mem_cons.1 c2 with e | e
      · injection e with e1 e2
        subst e1 e2
        rcases hc with hc | hc
        · rw [hasP_nat g r hr, hg] at hc; cases hc
        · rw [Int.toNat_natCast, Int.toNat_natCast, show r / 16 * 16 + r % 16 = r by omega] at hc
          exact .inl hc
      · exact .inr (.inr ⟨c1, e⟩)
theorem mid_push {g : Nat → Bool} {s : Nat} {out : Nat → Bool} {todo todo' : List Nat} {p : Nat} {x y : Int} {pend : List (Int × Int)} (h : Mid g s out todo p ((x, y) :: pend)) (hc : hasP g x y = true) (ha0 : Adj p (y.toNat * 16 + x.toNat))
    (h1 : ∀ q, q ∈ todo' → q = y.toNat * 16 + x.toNat ∨ q ∈ todo) (h2 : ∀ q, q ∈ todo → q ∈ todo') (h3 : y.toNat * 16 + x.toNat ∈ todo') : Mid g s (fun q => if q = y.toNat * 16 + x.toNat then true else out q) todo' p pend := by
  have hx := (hasP_iff g x y).1 hc
  refine ⟨?_, ?_, ?_, ?_, ?_⟩
  · show (if s = _ then true else out s) = true
    rw [h.start]; split <;> rfl
  · intro q hq ho
    by_cases e : q = y.toNat * 16 + x.toNat
    · subst e
      exact .step p _ (h.reach p h.cur.1 h.cur.2) ha0 hq hx.2.2.2.2
    · rw [if_neg e] at ho
      exact h.reach q hq ho
  · intro q hq
    rcases h1 q hq with e | e
    · subst e; exact ⟨by omega, by simp⟩
    · have := h.todo_ok q e
      refine ⟨this.1, ?_⟩
      rw [this.2]; split <;> rfl
  · refine ⟨h.cur.1, ?_⟩
    rw [h.cur.2]; split <;> rfl
  · intro q r hq hr ho ha hg
    by_cases e : q = y.toNat * 16 + x.toNat
    · subst e; exact .inr (.inl h3)
    · rw [if_neg e] at ho
      rcases h.done q r hq hr ho ha hg with c | c | ⟨c1, c2⟩
      · left; rw [c]; split <;> rfl
      · exact .inr (.inl (h2 q c))
      · rcases List.mem_cons.1 c2 with e | e
        · left
          injection e with e1 e2
          subst e1 e2
          rw [Int.toNat_natCast, Int.toNat_natCast, if_pos (by omega)]
        · exact .inr (.inr ⟨c1, e⟩)
theorem mid_end {g : Nat → Bool} {s : Nat} (hs : s < 256) {out : Nat → Bool} {p : Nat} (h : Mid g s out [] p []) (q : Nat) (hq : q < 256) : out q = comp g s q := by
  rw [Bool.eq_iff_iff, comp_iff]
  constructor
  · exact h.reach q hq
  · intro hr
    have key : ∀ q, Reach g s q → q < 256 ∧ out q = true := by
      intro q hr
      induction hr with
      | here => exact ⟨hs, h.start⟩
      | step q r _ ha hr hg ih =>
        refine ⟨hr, ?_⟩
        rcases h.done q r ih.1 hr ih.2 ha hg with c | c | ⟨_, c⟩
        · exact c
        · cases c
        · cases c
    exact (key q hr).2
/-- how much has not been seen -/
def unseen (out : Nat → Bool) : Nat := (List.range 256).countP fun q => !out q
theorem unseen_set (out : Nat → Bool) (p : Nat) (hp : p < 256) (h : out p = false) : unseen (fun q => if q = p then true else out q) + 1 = unseen out := by
  unfold unseen
  have key : ∀ (l : List Nat), l.Nodup → p ∈ l → l.countP (fun q => !(if q = p then true else out q)) + 1 = l.countP (fun q => !out q) := by
    intro l
    induction l with
    | nil => intro _ h; cases h
    | cons a l ih =>
      intro hn hm
      rw [List.countP_cons, List.countP_cons]
      by_cases e : a = p
      · subst e
        have hne : ∀ q ∈ l, (!(if q = a then true else out q)) = !out q := by
          intro q hq
          have : q ≠ a := fun e => (List.nodup_cons.1 hn).1 (e ▸ hq)
          rw [if_neg this]
        have hcc : l.countP (fun q => !(if q = a then true else out q)) = l.countP (fun q => !out q) := List.countP_congr (fun q hq => by rw [hne q hq])
        rw [hcc]
        simp [h]
      · have hm' : p ∈ l := by
          rcases List.mem_cons.1 hm with e' | e'
          · exact absurd e'.symm e
          · exact e'
        have := ih (List.nodup_cons.1 hn).2 hm'
        rw [if_neg e]
        omega
  exact key (List.range 256) List.nodup_range (by simpa using hp)
theorem nb_adj (p : Nat) (hp : p < 256) (x y : Int) (h0 : 0 ≤ x) (h1 : x < 16) (h2 : 0 ≤ y) (h3 : y < 16)
    (h : (x = ((p % 16 : Nat) : Int) - 1 ∧ y = ((p / 16 : Nat) : Int)) ∨ (x = ((p % 16 : Nat) : Int) + 1 ∧ y = ((p / 16 : Nat) : Int)) ∨ (x = ((p % 16 : Nat) : Int) ∧ y = ((p / 16 : Nat) : Int) - 1) ∨ (x = ((p % 16 : Nat) : Int) ∧ y = ((p / 16 : Nat) : Int) + 1)) :
    Adj p (y.toNat * 16 + x.toNat) := by
  unfold Adj
  omega
theorem adj_nb (p r : Nat) (hp : p < 256) (hr : r < 256) (h : Adj p r) :
    (((r % 16 : Nat) : Int) = ((p % 16 : Nat) : Int) - 1 ∧ ((r / 16 : Nat) : Int) = ((p / 16 : Nat) : Int)) ∨ (((r % 16 : Nat) : Int) = ((p % 16 : Nat) : Int) + 1 ∧ ((r / 16 : Nat) : Int) = ((p / 16 : Nat) : Int)) ∨ (((r % 16 : Nat) : Int) = ((p % 16 : Nat) : Int) ∧ ((r / 16 : Nat) : Int) = ((p / 16 : Nat) : Int) - 1) ∨ (((r % 16 : Nat) : Int) = ((p % 16 : Nat) : Int) ∧ ((r / 16 : Nat) : Int) = ((p / 16 : Nat) : Int) + 1) := by
  unfold Adj at h
  omega
end Go.Proofs.Ytfgeickfheogoaa.Q

/- impl.neighbours: the four neighbours of a pixel. -/
namespace Go.Proofs.Ytfgeickfheogoaa.Q
open Go.RowKit Go.Proofs.YtfgeickfheogoaaW.PrintWords Go.Proofs.YtfgeickfheogoaaW.PrintLast Go.Proofs.YtfgeickfheogoaaW.PrintMore
attribute [local go_sem] max2_int min2_int max_two min_two max_three min_three max_four min_four
set_option linter.unusedVariables false
set_option linter.unusedSimpArgs false
open Go.Proofs.Ytfgeickfheogoaa.Pure

/-- neighbour i of a pixel, which may be anywhere -/
def nbI (x y : Int) (i : Nat) : Int × Int := match i with
  | 0 => (x - 1, y)
  | 1 => (x + 1, y)
  | 2 => (x, y - 1)
  | _ => (x, y + 1)
/-- whether the neighbours before i all have what h says -/
def nbAll (h : Int → Int → Bool) (x y : Int) : Bool := h (x - 1) y && h (x + 1) y && h x (y - 1) && h x (y + 1)
def nbAny (h : Int → Int → Bool) (x y : Int) : Bool := h (x - 1) y || h (x + 1) y || h x (y - 1) || h x (y + 1)
theorem nbAll_no {h : Int → Int → Bool} {x y : Int} (i : Nat) (hi : i < 4) (hf : h (nbI x y i).1 (nbI x y i).2 = false) : nbAll h x y = false := by
  unfold nbAll
  obtain rfl | rfl | rfl | rfl : i = 0 ∨ i = 1 ∨ i = 2 ∨ i = 3 := by omega
  all_goals (simp only [nbI] at hf; rw [hf]; simp)
theorem nbAll_yes {h : Int → Int → Bool} {x y : Int} (ha : ∀ i, i < 4 → h (nbI x y i).1 (nbI x y i).2 = true) : nbAll h x y = true := by
  unfold nbAll
  have h0 := ha 0 (by omega)
  have h1 := ha 1 (by omega)
  have h2 := ha 2 (by omega)
  have h3 := ha 3 (by omega)
  simp only [nbI] at h0 h1 h2 h3
  rw [h0, h1, h2, h3]; rfl
theorem nbAny_yes {h : Int → Int → Bool} {x y : Int} (i : Nat) (hi : i < 4) (hf : h (nbI x y i).1 (nbI x y i).2 = true) : nbAny h x y = true := by
  unfold nbAny
  obtain rfl | rfl | rfl | rfl : i = 0 ∨ i = 1 ∨ i = 2 ∨ i = 3 := by omega
  all_goals (simp only [nbI] at hf; rw [hf]; simp)
theorem nbAny_no {h : Int → Int → Bool} {x y : Int} (ha : ∀ i, i < 4 → h (nbI x y i).1 (nbI x y i).2 = false) : nbAny h x y = false := by
  unfold nbAny
  have h0 := ha 0 (by omega)
  have h1 := ha 1 (by omega)
  have h2 := ha 2 (by omega)
  have h3 := ha 3 (by omega)
  simp only [nbI] at h0 h1 h2 h3
  rw [h0, h1, h2, h3]; rfl
def nbv (x y : Int) : Value := .agg #[.int .i64 (x - 1), .int .i64 y, .int .i64 (x + 1), .int .i64 y, .int .i64 x, .int .i64 (y - 1), .int .i64 x, .int .i64 (y + 1)]

set_option maxHeartbeats 4000000 in
set_option maxRecDepth 100000 in
theorem neighbours_calls (x y : Int) (h0 : 0 ≤ x ∧ x < 16 ∧ 0 ≤ y ∧ y < 16) (w : World) :
    Calls Try.prog 84 #[.int .i64 x, .int .i64 y] w fun e w' => e = .returned (nbv x y) ∧ Below w.heap.size w w' := by
  have e1 : wrap64 (x - 1) = x - 1 := w64 (by omega) (by omega)
  have e2 : wrap64 (x + 1) = x + 1 := w64 (by omega) (by omega)
  have e3 : wrap64 (y - 1) = y - 1 := w64 (by omega) (by omega)
  have e4 : wrap64 (y + 1) = y + 1 := w64 (by omega) (by omega)
  have hB := Aside0.mk (below_alloc (Below.refl w.heap.size w) (.cells #[.int .i64 0, .int .i64 0, .int .i64 0, .int .i64 0, .int .i64 0, .int .i64 0, .int .i64 0, .int .i64 0] 90))
  clear h0
  go_enter Try.func84, Try.ntmps84
  go_wp2
  refine bodyPost_ret (results_cell_row rfl _ _ w.heap.size 90 #[.int .i64 (x - 1), .int .i64 y, .int .i64 (x + 1), .int .i64 y, .int .i64 x, .int .i64 (y - 1), .int .i64 x, .int .i64 (y + 1)] (0, 0) (.array 4 89) rfl (blk_new _ _) Try.underlying90 rfl (by kernel_rfl)) rfl ?_
  exact ⟨rfl, below_alloc (Below.refl _ _) _⟩
end Go.Proofs.Ytfgeickfheogoaa.Q

/- (impl.grid).edge: the pixels of a grid that have a neighbour that is not in it. -/
namespace Go.Proofs.Ytfgeickfheogoaa.Q
open Go.RowKit Go.Proofs.YtfgeickfheogoaaW.PrintWords Go.Proofs.YtfgeickfheogoaaW.PrintLast Go.Proofs.YtfgeickfheogoaaW.PrintMore
attribute [local go_sem] max2_int min2_int max_two min_two max_three min_three max_four min_four
set_option linter.unusedVariables false
set_option linter.unusedSimpArgs false

/-- whether pixel p of a grid is at its edge -/
def edgeP (g : Nat → Bool) (x y : Nat) : Bool := g (y * 16 + x) && !(nbAll (hasP g) (x : Int) (y : Int))

set_option maxHeartbeats 1600000 in
set_option maxRecDepth 100000 in
theorem edge1_calls (g : Nat → Bool) (x y : Nat) (hx : x < 16) (hy : y < 16) (B : Nat) (w : World) (hg : GridAt w B g) :
    Calls Try.prog 83 #[.int .i64 (x : Int), .int .i64 (y : Int), .pointer (some ⟨B, 0, none⟩)] w fun e w' => e = .returned (.bool (edgeP g x y)) ∧ Below w.heap.size w w' := by
  have hgs := gc_size g
  have hcg := hg.cell (y * 16 + x) (by omega)
  have HN := Aside0.mk (neighbours_calls (x : Int) (y : Int) (by omega))
  have HG := Aside0.mk hg
  have HI := Aside0.mk (show (Try.prog.info? 66).map (·.size) = some (gc g).size by rw [gc_size]; exact info66)
  clear hg
  by_cases hp : g (y * 16 + x) = true
  · rw [hp] at hcg
    go_enter Try.func83, Try.ntmps83
    go_wp2_with (first
      | (go_at_call 84; refine (HN.out _).mono ?_; rintro e w1 ⟨rfl, hb1⟩; have HB1 := Aside0.mk hb1; clear hb1))
    unfold nbv
    go_loopw [17] (fun v17 W => ∃ i : Nat, v17 = .int .i64 i ∧ i ≤ 4 ∧ Aside0 (∀ j, j < i → hasP g (nbI x y j).1 (nbI x y j).2 = true) ∧ Aside0 (Below w.heap.size w W)) (fun v17 _ => 4 - (intOf v17).toNat)
    case atStart => exact ⟨0, rfl, by omega, ⟨fun j hj => absurd hj (by omega)⟩, HB1⟩
    case round =>
      obtain ⟨i, rfl, hi, HA, HB⟩ := hrel
      obtain ⟨wo, rfl⟩ : ∃ wo : World, wo = wr := ⟨_, rfl⟩
      have HGW := Aside0.mk (HG.out.below HB.out)
      have hg' : wo.heap[B]? = some (.cells (gc g) 66 (0, 0)) := HGW.out
      by_cases h4 : i = 4
      · subst h4
        have HE := Aside0.mk (show edgeP g x y = false by unfold edgeP; rw [hp, nbAll_yes (fun i hi => HA.out i hi)]; rfl)
        go_wp2
        go_ret
        exact ⟨by rw [HE.out]; rfl, HB.out⟩
      · have hall : ∀ (nx ny : Int), nbI x y i = (nx, ny) → True := fun _ _ _ => trivial
        obtain h | h | h | h : i = 0 ∨ i = 1 ∨ i = 2 ∨ i = 3 := by omega
        all_goals subst h
        · clear hall
          have hn : nbI x y 0 = ((x : Int) - 1, (y : Int)) := rfl
          cases hv : hasP g ((x : Int) - 1) ((y : Int)) with
          | true =>
            have HC := Aside0.mk (fun W => has_calls g ((x : Int) - 1) ((y : Int)) W)
            rw [hv] at HC
            have HV := Aside0.mk hv
            clear hv
            go_wp2_with (first
              | ((with_reducible refine gate_dst (N := 19) rfl ?_); refine Kd.event_run (v := .agg #[.int .i64 ((x : Int) - 1), .int .i64 ((y : Int))]) (w1 := wo) rfl (by kernel_rfl) ?_)
              | ((with_reducible refine gate_dst (N := 20) rfl ?_); refine wpList_load_row rfl 66 (.tmp 2) rfl B rfl 66 (gc g) (0, 0) (.array 16 64) (blk_alloc hg' _) underlying66 rfl HI.out ?_)
              | (go_at_call 60; refine (HC.out _).mono ?_; rintro e w2 ⟨rfl, hb2⟩; have HB2 := Aside0.mk (below_then (below_alloc HB.out _) (below_alloc HB.out _).size hb2); clear hb2))
            go_roundw
            case rel => exact ⟨0+1, by go_num, by omega, ⟨fun j hj => by
              by_cases e : j = 0
              · subst e; exact HV.out
              · exact HA.out j (by omega)⟩, HB2⟩
            case measure => simp [intOf]
          | false =>
            have HC := Aside0.mk (fun W => has_calls g ((x : Int) - 1) ((y : Int)) W)
            rw [hv] at HC
            have HE := Aside0.mk (show edgeP g x y = true by unfold edgeP; rw [hp, nbAll_no 0 (by omega) hv]; rfl)
            clear hv
            go_wp2_with (first
              | ((with_reducible refine gate_dst (N := 19) rfl ?_); refine Kd.event_run (v := .agg #[.int .i64 ((x : Int) - 1), .int .i64 ((y : Int))]) (w1 := wo) rfl (by kernel_rfl) ?_)
              | ((with_reducible refine gate_dst (N := 20) rfl ?_); refine wpList_load_row rfl 66 (.tmp 2) rfl B rfl 66 (gc g) (0, 0) (.array 16 64) (blk_alloc hg' _) underlying66 rfl HI.out ?_)
              | (go_at_call 60; refine (HC.out _).mono ?_; rintro e w2 ⟨rfl, hb2⟩; have HB2 := Aside0.mk (below_then (below_alloc HB.out _) (below_alloc HB.out _).size hb2); clear hb2))
            go_ret
            exact ⟨by rw [HE.out]; rfl, HB2.out⟩
        · clear hall
          have hn : nbI x y 1 = ((x : Int) + 1, (y : Int)) := rfl
          cases hv : hasP g ((x : Int) + 1) ((y : Int)) with
          | true =>
            have HC := Aside0.mk (fun W => has_calls g ((x : Int) + 1) ((y : Int)) W)
            rw [hv] at HC
            have HV := Aside0.mk hv
            clear hv
            go_wp2_with (first
              | ((with_reducible refine gate_dst (N := 19) rfl ?_); refine Kd.event_run (v := .agg #[.int .i64 ((x : Int) + 1), .int .i64 ((y : Int))]) (w1 := wo) rfl (by kernel_rfl) ?_)
              | ((with_reducible refine gate_dst (N := 20) rfl ?_); refine wpList_load_row rfl 66 (.tmp 2) rfl B rfl 66 (gc g) (0, 0) (.array 16 64) (blk_alloc hg' _) underlying66 rfl HI.out ?_)
              | (go_at_call 60; refine (HC.out _).mono ?_; rintro e w2 ⟨rfl, hb2⟩; have HB2 := Aside0.mk (below_then (below_alloc HB.out _) (below_alloc HB.out _).size hb2); clear hb2))
            go_roundw
            case rel => exact ⟨1+1, by go_num, by omega, ⟨fun j hj => by
              by_cases e : j = 1
              · subst e; exact HV.out
              · exact HA.out j (by omega)⟩, HB2⟩
            case measure => simp [intOf]
          | false =>
            have HC := Aside0.mk (fun W => has_calls g ((x : Int) + 1) ((y : Int)) W)
            rw [hv] at HC
            have HE := Aside0.mk (show edgeP g x y = true by unfold edgeP; rw [hp, nbAll_no 1 (by omega) hv]; rfl)
            clear hv
            go_wp2_with (first
              | ((with_reducible refine gate_dst (N := 19) rfl ?_); refine Kd.event_run (v := .agg #[.int .i64 ((x : Int) + 1), .int .i64 ((y : Int))]) (w1 := wo) rfl (by kernel_rfl) ?_)
              | ((with_reducible refine gate_dst (N := 20) rfl ?_); refine wpList_load_row rfl 66 (.tmp 2) rfl B rfl 66 (gc g) (0, 0) (.array 16 64) (blk_alloc hg' _) underlying66 rfl HI.out ?_)
              | (go_at_call 60; refine (HC.out _).mono ?_; rintro e w2 ⟨rfl, hb2⟩; have HB2 := Aside0.mk (below_then (below_alloc HB.out _) (below_alloc HB.out _).size hb2); clear hb2))
            go_ret
            exact ⟨by rw [HE.out]; rfl, HB2.out⟩
        · clear hall
          have hn : nbI x y 2 = ((x : Int), (y : Int) - 1) := rfl
          cases hv : hasP g ((x : Int)) ((y : Int) - 1) with
          | true =>
            have HC := Aside0.mk (fun W => has_calls g ((x : Int)) ((y : Int) - 1) W)
            rw [hv] at HC
            have HV := Aside0.mk hv
            clear hv
            go_wp2_with (first
              | ((with_reducible refine gate_dst (N := 19) rfl ?_); refine Kd.event_run (v := .agg #[.int .i64 ((x : Int)), .int .i64 ((y : Int) - 1)]) (w1 := wo) rfl (by kernel_rfl) ?_)
              | ((with_reducible refine gate_dst (N := 20) rfl ?_); refine wpList_load_row rfl 66 (.tmp 2) rfl B rfl 66 (gc g) (0, 0) (.array 16 64) (blk_alloc hg' _) underlying66 rfl HI.out ?_)
              | (go_at_call 60; refine (HC.out _).mono ?_; rintro e w2 ⟨rfl, hb2⟩; have HB2 := Aside0.mk (below_then (below_alloc HB.out _) (below_alloc HB.out _).size hb2); clear hb2))
            go_roundw
            case rel => exact ⟨2+1, by go_num, by omega, ⟨fun j hj => by
              by_cases e : j = 2
              · subst e; exact HV.out
              · exact HA.out j (by omega)⟩, HB2⟩
            case measure => simp [intOf]
          | false =>
            have HC := Aside0.mk (fun W => has_calls g ((x : Int)) ((y : Int) - 1) W)
            rw [hv] at HC
            have HE := Aside0.mk (show edgeP g x y = true by unfold edgeP; rw [hp, nbAll_no 2 (by omega) hv]; rfl)
            clear hv
            go_wp2_with (first
              | ((with_reducible refine gate_dst (N := 19) rfl ?_); refine Kd.event_run (v := .agg #[.int .i64 ((x : Int)), .int .i64 ((y : Int) - 1)]) (w1 := wo) rfl (by kernel_rfl) ?_)
              | ((with_reducible refine gate_dst (N := 20) rfl ?_); refine wpList_load_row rfl 66 (.tmp 2) rfl B rfl 66 (gc g) (0, 0) (.array 16 64) (blk_alloc hg' _) underlying66 rfl HI.out ?_)
              | (go_at_call 60; refine (HC.out _).mono ?_; rintro e w2 ⟨rfl, hb2⟩; have HB2 := Aside0.mk (below_then (below_alloc HB.out _) (below_alloc HB.out _).size hb2); clear hb2))
            go_ret
            exact ⟨by rw [HE.out]; rfl, HB2.out⟩
        · clear hall
          have hn : nbI x y 3 = ((x : Int), (y : Int) + 1) := rfl
          cases hv : hasP g ((x : Int)) ((y : Int) + 1) with
          | true =>
            have HC := Aside0.mk (fun W => has_calls g ((x : Int)) ((y : Int) + 1) W)
            rw [hv] at HC
            have HV := Aside0.mk hv
            clear hv
            go_wp2_with (first
              | ((with_reducible refine gate_dst (N := 19) rfl ?_); refine Kd.event_run (v := .agg #[.int .i64 ((x : Int)), .int .i64 ((y : Int) + 1)]) (w1 := wo) rfl (by kernel_rfl) ?_)
              | ((with_reducible refine gate_dst (N := 20) rfl ?_); refine wpList_load_row rfl 66 (.tmp 2) rfl B rfl 66 (gc g) (0, 0) (.array 16 64) (blk_alloc hg' _) underlying66 rfl HI.out ?_)
              | (go_at_call 60; refine (HC.out _).mono ?_; rintro e w2 ⟨rfl, hb2⟩; have HB2 := Aside0.mk (below_then (below_alloc HB.out _) (below_alloc HB.out _).size hb2); clear hb2))
            go_roundw
            case rel => exact ⟨3+1, by go_num, by omega, ⟨fun j hj => by
              by_cases e : j = 3
              · subst e; exact HV.out
              · exact HA.out j (by omega)⟩, HB2⟩
            case measure => simp [intOf]
          | false =>
            have HC := Aside0.mk (fun W => has_calls g ((x : Int)) ((y : Int) + 1) W)
            rw [hv] at HC
            have HE := Aside0.mk (show edgeP g x y = true by unfold edgeP; rw [hp, nbAll_no 3 (by omega) hv]; rfl)
            clear hv
            go_wp2_with (first
              | ((with_reducible refine gate_dst (N := 19) rfl ?_); refine Kd.event_run (v := .agg #[.int .i64 ((x : Int)), .int .i64 ((y : Int) + 1)]) (w1 := wo) rfl (by kernel_rfl) ?_)
              | ((with_reducible refine gate_dst (N := 20) rfl ?_); refine wpList_load_row rfl 66 (.tmp 2) rfl B rfl 66 (gc g) (0, 0) (.array 16 64) (blk_alloc hg' _) underlying66 rfl HI.out ?_)
              | (go_at_call 60; refine (HC.out _).mono ?_; rintro e w2 ⟨rfl, hb2⟩; have HB2 := Aside0.mk (below_then (below_alloc HB.out _) (below_alloc HB.out _).size hb2); clear hb2))
            go_ret
            exact ⟨by rw [HE.out]; rfl, HB2.out⟩
  · replace hp : g (y * 16 + x) = false := by simpa using hp
    rw [hp] at hcg
    have hE : edgeP g x y = false := by unfold edgeP; rw [hp]; rfl
    go_enter Try.func83, Try.ntmps83
    go_wp2
    go_ret
    exact ⟨by rw [hE]; rfl, Below.refl _ _⟩

set_option maxHeartbeats 1600000 in
set_option maxRecDepth 100000 in
theorem edge_calls (g : Nat → Bool) (w : World) :
    Calls Try.prog 72 #[.agg (gc g)] w fun e w' => e = .returned (.agg (gc (gso (edgeP g) 256))) ∧ Below w.heap.size w w' := by
  have z0 := zero66
  have HB := Aside0.mk (below_alloc (below_alloc (Below.refl w.heap.size w) (.cells (gc g) 66)) (.cells (gc fun _ => false) 66))
  have HG := Aside0.mk ((GridAt.new w g).alloc (.cells (gc fun _ => false) 66))
  have HZ := Aside0.mk (GridAt.new (w.alloc (.cells (gc g) 66)) (fun _ => false))
  simp only [World.size_alloc] at HZ
  have HSZ := Aside0.mk (show (gc fun _ => false).size = (gc (gso (edgeP g) 256)).size by rw [gc_size, gc_size])
  have HO := Aside0.mk (gc_one (gso (edgeP g) 256))
  have HI := Aside0.mk (show (Try.prog.info? 66).map (·.size) = some (gc (gso (edgeP g) 256)).size by rw [gc_size]; exact info66)
  go_enter Try.func72, Try.ntmps72
  go_wp2_with (first
    | (go_at_call 62; refine (gridBy_calls 83 #[.pointer (some ⟨w.heap.size, 0, none⟩)] (edgeP g) ((w.alloc (.cells (gc g) 66)).alloc (.cells (gc fun _ => false) 66)) (enters_of Try.func83 (by kernel_rfl) rfl) (fun W x y hx hy hW => edge1_calls g x y hx hy w.heap.size W (HG.out.below hW))).mono ?_; rintro e w2 ⟨rfl, hb2⟩; have HZ2 : Aside0 (w2.heap[w.heap.size + 1]? = some (.cells (gc fun _ => false) 66 (0, 0))) := Aside0.mk (HZ.out.below hb2); have HB2 := Aside0.mk (below_then HB.out HB.out.size hb2); clear hb2)
    | ((with_reducible refine wpList_store_row rfl 66 (.tmp 2) (.tmp 4) rfl (w.heap.size + 1) (gc (gso (edgeP g) 256)) ?hx ?hy 66 (gc fun _ => false) HZ2.out HI.out HSZ.out HO.out ?_); (case hx => rfl); (case hy => rfl)))
  refine bodyPost_ret (results_cell_row rfl _ _ (w.heap.size + 1) 66 (gc (gso (edgeP g) 256)) (0, 0) (.array 16 64) rfl (GridAt.setRow (g := fun _ => false) HZ2.out (gso (edgeP g) 256)) underlying66 rfl HI.out) rfl ?_
  exact ⟨rfl, below_setRow HB2.out (Nat.le_succ _) _⟩
end Go.Proofs.Ytfgeickfheogoaa.Q

/- (impl.grid).grown: a grid with its neighbours, so often. -/
namespace Go.Proofs.Ytfgeickfheogoaa.Q
open Go.RowKit Go.Proofs.YtfgeickfheogoaaW.PrintWords Go.Proofs.YtfgeickfheogoaaW.PrintLast Go.Proofs.YtfgeickfheogoaaW.PrintMore
attribute [local go_sem] max2_int min2_int max_two min_two max_three min_three max_four min_four
set_option linter.unusedVariables false
set_option linter.unusedSimpArgs false

/-- whether pixel p of a grid or a neighbour is in it -/
def growP (g : Nat → Bool) (x y : Nat) : Bool := g (y * 16 + x) || nbAny (hasP g) (x : Int) (y : Int)
def growN (g : Nat → Bool) : Nat → Nat → Bool
  | 0 => g
  | n + 1 => gso (growP (growN g n)) 256
theorem setRow_keepG {W : World} {k g : Nat} {o : Obj} (h : W.heap[k]? = some o) (cs : Array Value) (hk : k ≠ g) : (W.setRow g cs).heap[k]? = some o := (setRow_other W g k cs hk).trans h

set_option maxHeartbeats 1600000 in
set_option maxRecDepth 100000 in
theorem grown1_calls (g : Nat → Bool) (x y : Nat) (hx : x < 16) (hy : y < 16) (B : Nat) (w : World) (hg : GridAt w B g) :
    Calls Try.prog 87 #[.int .i64 (x : Int), .int .i64 (y : Int), .pointer (some ⟨B, 0, none⟩)] w fun e w' => e = .returned (.bool (growP g x y)) ∧ Below w.heap.size w w' := by
  have hgs := gc_size g
  have hcg := hg.cell (y * 16 + x) (by omega)
  have HN := Aside0.mk (neighbours_calls (x : Int) (y : Int) (by omega))
  have HG := Aside0.mk hg
  have HI := Aside0.mk (show (Try.prog.info? 66).map (·.size) = some (gc g).size by rw [gc_size]; exact info66)
  clear hg
  by_cases hp : g (y * 16 + x) = false
  · rw [hp] at hcg
    go_enter Try.func87, Try.ntmps87
    go_wp2_with (first
      | (go_at_call 84; refine (HN.out _).mono ?_; rintro e w1 ⟨rfl, hb1⟩; have HB1 := Aside0.mk hb1; clear hb1))
    unfold nbv
    go_loopw [16] (fun v16 W => ∃ i : Nat, v16 = .int .i64 i ∧ i ≤ 4 ∧ Aside0 (∀ j, j < i → hasP g (nbI x y j).1 (nbI x y j).2 = false) ∧ Aside0 (Below w.heap.size w W)) (fun v16 _ => 4 - (intOf v16).toNat)
    case atStart => exact ⟨0, rfl, by omega, ⟨fun j hj => absurd hj (by omega)⟩, HB1⟩
    case round =>
      obtain ⟨i, rfl, hi, HA, HB⟩ := hrel
      obtain ⟨wo, rfl⟩ : ∃ wo : World, wo = wr := ⟨_, rfl⟩
      have HGW := Aside0.mk (HG.out.below HB.out)
      have hg' : wo.heap[B]? = some (.cells (gc g) 66 (0, 0)) := HGW.out
      by_cases h4 : i = 4
      · subst h4
        have HE := Aside0.mk (show growP g x y = false by unfold growP; rw [hp, nbAny_no (fun i hi => HA.out i hi)]; rfl)
        go_wp2
        go_ret
        exact ⟨by rw [HE.out]; rfl, HB.out⟩
      · obtain h | h | h | h : i = 0 ∨ i = 1 ∨ i = 2 ∨ i = 3 := by omega
        all_goals subst h
        · have hn : nbI x y 0 = ((x : Int) - 1, (y : Int)) := rfl
          cases hv : hasP g ((x : Int) - 1) ((y : Int)) with
          | false =>
            have HC := Aside0.mk (fun W => has_calls g ((x : Int) - 1) ((y : Int)) W)
            rw [hv] at HC
            have HV := Aside0.mk hv
            clear hv
            go_wp2_with (first
              | ((with_reducible refine gate_dst (N := 18) rfl ?_); refine Kd.event_run (v := .agg #[.int .i64 ((x : Int) - 1), .int .i64 ((y : Int))]) (w1 := wo) rfl (by kernel_rfl) ?_)
              | ((with_reducible refine gate_dst (N := 19) rfl ?_); refine wpList_load_row rfl 66 (.tmp 2) rfl B rfl 66 (gc g) (0, 0) (.array 16 64) (blk_alloc hg' _) underlying66 rfl HI.out ?_)
              | (go_at_call 60; refine (HC.out _).mono ?_; rintro e w2 ⟨rfl, hb2⟩; have HB2 := Aside0.mk (below_then (below_alloc HB.out _) (below_alloc HB.out _).size hb2); clear hb2))
            go_roundw
            case rel => exact ⟨0+1, by go_num, by omega, ⟨fun j hj => by
              by_cases e : j = 0
              · subst e; exact HV.out
              · exact HA.out j (by omega)⟩, HB2⟩
            case measure => simp [intOf]
          | true =>
            have HC := Aside0.mk (fun W => has_calls g ((x : Int) - 1) ((y : Int)) W)
            rw [hv] at HC
            have HE := Aside0.mk (show growP g x y = true by unfold growP; rw [hp, nbAny_yes 0 (by omega) hv]; rfl)
            clear hv
            go_wp2_with (first
              | ((with_reducible refine gate_dst (N := 18) rfl ?_); refine Kd.event_run (v := .agg #[.int .i64 ((x : Int) - 1), .int .i64 ((y : Int))]) (w1 := wo) rfl (by kernel_rfl) ?_)
              | ((with_reducible refine gate_dst (N := 19) rfl ?_); refine wpList_load_row rfl 66 (.tmp 2) rfl B rfl 66 (gc g) (0, 0) (.array 16 64) (blk_alloc hg' _) underlying66 rfl HI.out ?_)
              | (go_at_call 60; refine (HC.out _).mono ?_; rintro e w2 ⟨rfl, hb2⟩; have HB2 := Aside0.mk (below_then (below_alloc HB.out _) (below_alloc HB.out _).size hb2); clear hb2))
            go_ret
            exact ⟨by rw [HE.out]; rfl, HB2.out⟩
        · have hn : nbI x y 1 = ((x : Int) + 1, (y : Int)) := rfl
          cases hv : hasP g ((x : Int) + 1) ((y : Int)) with
          | false =>
            have HC := Aside0.mk (fun W => has_calls g ((x : Int) + 1) ((y : Int)) W)
            rw [hv] at HC
            have HV := Aside0.mk hv
            clear hv
            go_wp2_with (first
              | ((with_reducible refine gate_dst (N := 18) rfl ?_); refine Kd.event_run (v := .agg #[.int .i64 ((x : Int) + 1), .int .i64 ((y : Int))]) (w1 := wo) rfl (by kernel_rfl) ?_)
              | ((with_reducible refine gate_dst (N := 19) rfl ?_); refine wpList_load_row rfl 66 (.tmp 2) rfl B rfl 66 (gc g) (0, 0) (.array 16 64) (blk_alloc hg' _) underlying66 rfl HI.out ?_)
              | (go_at_call 60; refine (HC.out _).mono ?_; rintro e w2 ⟨rfl, hb2⟩; have HB2 := Aside0.mk (below_then (below_alloc HB.out _) (below_alloc HB.out _).size hb2); clear hb2))
            go_roundw
            case rel => exact ⟨1+1, by go_num, by omega, ⟨fun j hj => by
              by_cases e : j = 1
              · subst e; exact HV.out
              · exact HA.out j (by omega)⟩, HB2⟩
            case measure => simp [intOf]
          | true =>
            have HC := Aside0.mk (fun W => has_calls g ((x : Int) + 1) ((y : Int)) W)
            rw [hv] at HC
            have HE := Aside0.mk (show growP g x y = true by unfold growP; rw [hp, nbAny_yes 1 (by omega) hv]; rfl)
            clear hv
            go_wp2_with (first
              | ((with_reducible refine gate_dst (N := 18) rfl ?_); refine Kd.event_run (v := .agg #[.int .i64 ((x : Int) + 1), .int .i64 ((y : Int))]) (w1 := wo) rfl (by kernel_rfl) ?_)
              | ((with_reducible refine gate_dst (N := 19) rfl ?_); refine wpList_load_row rfl 66 (.tmp 2) rfl B rfl 66 (gc g) (0, 0) (.array 16 64) (blk_alloc hg' _) underlying66 rfl HI.out ?_)
              | (go_at_call 60; refine (HC.out _).mono ?_; rintro e w2 ⟨rfl, hb2⟩; have HB2 := Aside0.mk (below_then (below_alloc HB.out _) (below_alloc HB.out _).size hb2); clear hb2))
            go_ret
            exact ⟨by rw [HE.out]; rfl, HB2.out⟩
        · have hn : nbI x y 2 = ((x : Int), (y : Int) - 1) := rfl
          cases hv : hasP g ((x : Int)) ((y : Int) - 1) with
          | false =>
            have HC := Aside0.mk (fun W => has_calls g ((x : Int)) ((y : Int) - 1) W)
            rw [hv] at HC
            have HV := Aside0.mk hv
            clear hv
            go_wp2_with (first
              | ((with_reducible refine gate_dst (N := 18) rfl ?_); refine Kd.event_run (v := .agg #[.int .i64 ((x : Int)), .int .i64 ((y : Int) - 1)]) (w1 := wo) rfl (by kernel_rfl) ?_)
              | ((with_reducible refine gate_dst (N := 19) rfl ?_); refine wpList_load_row rfl 66 (.tmp 2) rfl B rfl 66 (gc g) (0, 0) (.array 16 64) (blk_alloc hg' _) underlying66 rfl HI.out ?_)
              | (go_at_call 60; refine (HC.out _).mono ?_; rintro e w2 ⟨rfl, hb2⟩; have HB2 := Aside0.mk (below_then (below_alloc HB.out _) (below_alloc HB.out _).size hb2); clear hb2))
            go_roundw
            case rel => exact ⟨2+1, by go_num, by omega, ⟨fun j hj => by
              by_cases e : j = 2
              · subst e; exact HV.out
              · exact HA.out j (by omega)⟩, HB2⟩
            case measure => simp [intOf]
          | true =>
            have HC := Aside0.mk (fun W => has_calls g ((x : Int)) ((y : Int) - 1) W)
            rw [hv] at HC
            have HE := Aside0.mk (show growP g x y = true by unfold growP; rw [hp, nbAny_yes 2 (by omega) hv]; rfl)
            clear hv
            go_wp2_with (first
              | ((with_reducible refine gate_dst (N := 18) rfl ?_); refine Kd.event_run (v := .agg #[.int .i64 ((x : Int)), .int .i64 ((y : Int) - 1)]) (w1 := wo) rfl (by kernel_rfl) ?_)
              | ((with_reducible refine gate_dst (N := 19) rfl ?_); refine wpList_load_row rfl 66 (.tmp 2) rfl B rfl 66 (gc g) (0, 0) (.array 16 64) (blk_alloc hg' _) underlying66 rfl HI.out ?_)
              | (go_at_call 60; refine (HC.out _).mono ?_; rintro e w2 ⟨rfl, hb2⟩; have HB2 := Aside0.mk (below_then (below_alloc HB.out _) (below_alloc HB.out _).size hb2); clear hb2))
            go_ret
            exact ⟨by rw [HE.out]; rfl, HB2.out⟩
        · have hn : nbI x y 3 = ((x : Int), (y : Int) + 1) := rfl
          cases hv : hasP g ((x : Int)) ((y : Int) + 1) with
          | false =>
            have HC := Aside0.mk (fun W => has_calls g ((x : Int)) ((y : Int) + 1) W)
            rw [hv] at HC
            have HV := Aside0.mk hv
            clear hv
            go_wp2_with (first
              | ((with_reducible refine gate_dst (N := 18) rfl ?_); refine Kd.event_run (v := .agg #[.int .i64 ((x : Int)), .int .i64 ((y : Int) + 1)]) (w1 := wo) rfl (by kernel_rfl) ?_)
              | ((with_reducible refine gate_dst (N := 19) rfl ?_); refine wpList_load_row rfl 66 (.tmp 2) rfl B rfl 66 (gc g) (0, 0) (.array 16 64) (blk_alloc hg' _) underlying66 rfl HI.out ?_)
              | (go_at_call 60; refine (HC.out _).mono ?_; rintro e w2 ⟨rfl, hb2⟩; have HB2 := Aside0.mk (below_then (below_alloc HB.out _) (below_alloc HB.out _).size hb2); clear hb2))
            go_roundw
            case rel => exact ⟨3+1, by go_num, by omega, ⟨fun j hj => by
              by_cases e : j = 3
              · subst e; exact HV.out
              · exact HA.out j (by omega)⟩, HB2⟩
            case measure => simp [intOf]
          | true =>
            have HC := Aside0.mk (fun W => has_calls g ((x : Int)) ((y : Int) + 1) W)
            rw [hv] at HC
            have HE := Aside0.mk (show growP g x y = true by unfold growP; rw [hp, nbAny_yes 3 (by omega) hv]; rfl)
            clear hv
            go_wp2_with (first
              | ((with_reducible refine gate_dst (N := 18) rfl ?_); refine Kd.event_run (v := .agg #[.int .i64 ((x : Int)), .int .i64 ((y : Int) + 1)]) (w1 := wo) rfl (by kernel_rfl) ?_)
              | ((with_reducible refine gate_dst (N := 19) rfl ?_); refine wpList_load_row rfl 66 (.tmp 2) rfl B rfl 66 (gc g) (0, 0) (.array 16 64) (blk_alloc hg' _) underlying66 rfl HI.out ?_)
              | (go_at_call 60; refine (HC.out _).mono ?_; rintro e w2 ⟨rfl, hb2⟩; have HB2 := Aside0.mk (below_then (below_alloc HB.out _) (below_alloc HB.out _).size hb2); clear hb2))
            go_ret
            exact ⟨by rw [HE.out]; rfl, HB2.out⟩
  · replace hp : g (y * 16 + x) = true := by simpa using hp
    rw [hp] at hcg
    have hE : growP g x y = true := by unfold growP; rw [hp]; rfl
    go_enter Try.func87, Try.ntmps87
    go_wp2
    go_ret
    exact ⟨by rw [hE]; rfl, Below.refl _ _⟩

set_option maxHeartbeats 1600000 in
set_option maxRecDepth 100000 in
theorem grown_calls (g : Nat → Bool) (n : Nat) (hn : n ≤ 16) (w : World) :
    Calls Try.prog 79 #[.agg (gc g), .int .i64 (n : Int)] w fun e w' => e = .returned (.agg (gc (growN g n))) ∧ Below w.heap.size w w' := by
  have z0 := zero66
  have HSZ := Aside0.mk (fun g g' : Nat → Bool => show (gc g).size = (gc g').size by rw [gc_size, gc_size])
  have HO := Aside0.mk (fun g : Nat → Bool => gc_one g)
  have HI := Aside0.mk (fun g : Nat → Bool => show (Try.prog.info? 66).map (·.size) = some (gc g).size by rw [gc_size]; exact info66)
  go_enter Try.func79, Try.ntmps79
  go_wp2
  go_loopw [7] (fun v7 W => ∃ i : Nat, v7 = .int .i64 i ∧ i ≤ n ∧ Aside0 (GridAt W w.heap.size (growN g i)) ∧ Aside0 (GridAt W (w.heap.size + 1) (fun _ => false)) ∧ Aside0 (Below w.heap.size w W)) (fun v7 _ => n - (intOf v7).toNat)
  case atStart =>
    have h := GridAt.new (w.alloc (.cells (gc g) 66)) (fun _ => false)
    simp only [World.size_alloc] at h
    exact ⟨0, rfl, by omega, ⟨(GridAt.new _ _).alloc _⟩, ⟨h⟩, ⟨below_alloc (below_alloc (Below.refl _ _) _) _⟩⟩
  case round =>
    obtain ⟨i, rfl, hi, HG, HZ, HB⟩ := hrel
    obtain ⟨wo, rfl⟩ : ∃ wo : World, wo = wr := ⟨_, rfl⟩
    have hg' : wo.heap[w.heap.size]? = some (.cells (gc (growN g i)) 66 (0, 0)) := HG.out
    have hz' : wo.heap[w.heap.size + 1]? = some (.cells (gc fun _ => false) 66 (0, 0)) := HZ.out
    have hlt := GridAt.lt HZ.out
    by_cases hlt : i < n
    · have d1 : decide ((i : Int) < (n : Int)) = true := by simpa using hlt
      have HN : Aside0 ((wo.alloc (.cells (gc fun _ => false) 66)).heap[wo.heap.size]? = some (.cells (gc fun _ => false) 66 (0, 0))) := Aside0.mk (blk_new _ _)
      have HN2 : Aside0 (GridAt ((wo.alloc (.cells (gc fun _ => false) 66)).setRow wo.heap.size (gc (growN g i))) wo.heap.size (growN g i)) := Aside0.mk (GridAt.setRow (g := fun _ => false) HN.out (growN g i))
      have HG2 := Aside0.mk (setRow_keepG (g := wo.heap.size) (blk_alloc hg' (.cells (gc fun _ => false) 66)) (gc (growN g i)) (by omega))
      have HZ2 := Aside0.mk (setRow_keepG (g := wo.heap.size) (blk_alloc hz' (.cells (gc fun _ => false) 66)) (gc (growN g i)) (by omega))
      have HB2 := Aside0.mk (below_setRow (below_alloc HB.out (.cells (gc fun _ => false) 66)) HB.out.size (gc (growN g i)))
      go_wp2_with (first
        | ((with_reducible refine gate_dst (N := 9) rfl ?_); refine wpList_load_row rfl 66 (.tmp 2) rfl w.heap.size rfl 66 (gc (growN g i)) (0, 0) (.array 16 64) hg' underlying66 rfl (HI.out _) ?_)
        | ((with_reducible refine wpList_store_row rfl 66 (.tmp 5) (.tmp 9) rfl wo.heap.size (gc (growN g i)) ?hx ?hy 66 (gc fun _ => false) HN.out (HI.out _) (HSZ.out _ _) (HO.out _) ?_); (case hx => rfl); (case hy => rfl))
        | (go_at_call 62; refine (gridBy_calls 87 #[.pointer (some ⟨wo.heap.size, 0, none⟩)] (growP (growN g i)) ((wo.alloc (.cells (gc fun _ => false) 66)).setRow wo.heap.size (gc (growN g i))) (enters_of Try.func87 (by kernel_rfl) rfl) (fun W x y hx hy hW => grown1_calls (growN g i) x y hx hy _ W (HN2.out.below hW))).mono ?_; rintro e w2 ⟨rfl, hb2⟩;
            have HB3 := Aside0.mk (below_then HB2.out HB2.out.size hb2); have HG3 : Aside0 (w2.heap[w.heap.size]? = some (.cells (gc (growN g i)) 66 (0, 0))) := Aside0.mk (blk_below HG2.out hb2); have HZ3 := Aside0.mk (blk_below HZ2.out hb2); clear hb2)
        | ((with_reducible refine wpList_store_row rfl 66 (.tmp 2) (.tmp 11) rfl w.heap.size (gc (gso (growP (growN g i)) 256)) ?hx ?hy 66 (gc (growN g i)) HG3.out (HI.out _) (HSZ.out _ _) (HO.out _) ?_); (case hx => rfl); (case hy => rfl)))
      go_roundw
      case rel => exact ⟨i + 1, by go_num, by omega, ⟨GridAt.setRow (g := growN g i) HG3.out _⟩, ⟨setRow_keepG HZ3.out _ (by omega)⟩, ⟨below_setRow HB3.out (Nat.le_refl _) _⟩⟩
      case measure => simp [intOf]; omega
    · have d1 : decide ((i : Int) < (n : Int)) = false := by simpa using hlt
      have hin : i = n := by omega
      subst hin
      go_wp2_with (first
        | ((with_reducible refine gate_dst (N := 13) rfl ?_); refine wpList_load_row rfl 66 (.tmp 2) rfl w.heap.size rfl 66 (gc (growN g i)) (0, 0) (.array 16 64) hg' underlying66 rfl (HI.out _) ?_)
        | ((with_reducible refine wpList_store_row rfl 66 (.tmp 4) (.tmp 13) rfl (w.heap.size + 1) (gc (growN g i)) ?hx ?hy 66 (gc fun _ => false) hz' (HI.out _) (HSZ.out _ _) (HO.out _) ?_); (case hx => rfl); (case hy => rfl)))
      refine bodyPost_ret (results_cell_row rfl _ _ (w.heap.size + 1) 66 (gc (growN g i)) (0, 0) (.array 16 64) rfl (GridAt.setRow (g := fun _ => false) HZ.out (growN g i)) underlying66 rfl (HI.out _)) rfl ?_
      exact ⟨rfl, below_setRow HB.out (Nat.le_succ _) _⟩
end Go.Proofs.Ytfgeickfheogoaa.Q

/- (impl.grid).shrunk: a grid without its edge, so often. -/
namespace Go.Proofs.Ytfgeickfheogoaa.Q
open Go.RowKit Go.Proofs.YtfgeickfheogoaaW.PrintWords Go.Proofs.YtfgeickfheogoaaW.PrintLast Go.Proofs.YtfgeickfheogoaaW.PrintMore
attribute [local go_sem] max2_int min2_int max_two min_two max_three min_three max_four min_four
set_option linter.unusedVariables false
set_option linter.unusedSimpArgs false

def shrinkP (g : Nat → Bool) (x y : Nat) : Bool := g (y * 16 + x) && !(gso (edgeP g) 256 (y * 16 + x))
def shrinkN (g : Nat → Bool) : Nat → Nat → Bool
  | 0 => g
  | n + 1 => gso (shrinkP (shrinkN g n)) 256
theorem setRow_keepS {W : World} {k g : Nat} {o : Obj} (h : W.heap[k]? = some o) (cs : Array Value) (hk : k ≠ g) : (W.setRow g cs).heap[k]? = some o := (setRow_other W g k cs hk).trans h
theorem yields_grid {ops : Array Oper} {S : World → Prop} {op : Oper} {a : Act} (hw : Region.wanted op (yielded ops a.tmps) = true) (x : Operand) (ho : op.op = .load 66 x)
    (B : Nat) (hx : a.eval x = .pointer (some ⟨B, 0, none⟩)) (g : Nat → Bool) (hS : ∀ w, S w → GridAt w B g) : YieldsIf Try.prog ops S op (.agg (gc g)) a :=
  .inl ⟨hw, fun w hw' => by
    unfold execOp
    simp only [ho, hx, Instr.loadAt, Instr.sureAddr, Sem.run_bind, Sem.run_pure, Result.andThen_ok, run_loadVar_row w B 66 66 (gc g) (0, 0) (.array 16 64) (hS w hw') underlying66 rfl (by rw [gc_size]; exact info66)]⟩

set_option maxHeartbeats 1600000 in
set_option maxRecDepth 100000 in
theorem shrunk1_calls (g e : Nat → Bool) (x y : Nat) (hx : x < 16) (hy : y < 16) (B1 B2 : Nat) (w : World) (h1 : GridAt w B1 g) (h2 : GridAt w B2 e) :
    Calls Try.prog 88 #[.int .i64 (x : Int), .int .i64 (y : Int), .pointer (some ⟨B1, 0, none⟩), .pointer (some ⟨B2, 0, none⟩)] w fun e_ w' => e_ = .returned (.bool (g (y * 16 + x) && !(e (y * 16 + x)))) ∧ Below w.heap.size w w' := by
  have c1 := h1.cell (y * 16 + x) (by omega)
  have c2 := h2.cell (y * 16 + x) (by omega)
  clear h1 h2
  cases hp : g (y * 16 + x) <;> cases hq : e (y * 16 + x) <;> rw [hp] at c1 <;> rw [hq] at c2
  all_goals
    clear hp hq
    go_enter Try.func88, Try.ntmps88
    go_wp2
    go_ret
    exact ⟨rfl, Below.refl _ _⟩

set_option maxHeartbeats 1600000 in
set_option maxRecDepth 100000 in
theorem shrunk_calls (g : Nat → Bool) (n : Nat) (hn : n ≤ 16) (w : World) :
    Calls Try.prog 80 #[.agg (gc g), .int .i64 (n : Int)] w fun e w' => e = .returned (.agg (gc (shrinkN g n))) ∧ Below w.heap.size w w' := by
  have z0 := zero66
  have HSZ := Aside0.mk (fun g g' : Nat → Bool => show (gc g).size = (gc g').size by rw [gc_size, gc_size])
  have HO := Aside0.mk (fun g : Nat → Bool => gc_one g)
  have HI := Aside0.mk (fun g : Nat → Bool => show (Try.prog.info? 66).map (·.size) = some (gc g).size by rw [gc_size]; exact info66)
  go_enter Try.func80, Try.ntmps80
  go_wp2
  go_loopw [8] (fun v8 W => ∃ i : Nat, v8 = .int .i64 i ∧ i ≤ n ∧ Aside0 (GridAt W w.heap.size (shrinkN g i)) ∧ Aside0 (GridAt W (w.heap.size + 1) (fun _ => false)) ∧ Aside0 (Below w.heap.size w W)) (fun v8 _ => n - (intOf v8).toNat)
  case atStart =>
    have h := GridAt.new (w.alloc (.cells (gc g) 66)) (fun _ => false)
    simp only [World.size_alloc] at h
    exact ⟨0, rfl, by omega, ⟨(GridAt.new _ _).alloc _⟩, ⟨h⟩, ⟨below_alloc (below_alloc (Below.refl _ _) _) _⟩⟩
  case round =>
    obtain ⟨i, rfl, hi, HG, HZ, HB⟩ := hrel
    obtain ⟨wo, rfl⟩ : ∃ wo : World, wo = wr := ⟨_, rfl⟩
    by_cases hlt : i < n
    · have d1 : decide ((i : Int) < (n : Int)) = true := by simpa using hlt
      have hlt0 := GridAt.lt HZ.out
      go_wp2
      refine wp_region_held_drew (S := fun W => Aside0 (GridAt W w.heap.size (shrinkN g i) ∧ GridAt W (w.heap.size + 1) (fun _ => false) ∧ Below w.heap.size w W ∧ w.heap.size + 1 < W.heap.size)) (by kernel_rfl) ⟨HG.out, HZ.out, below_drew HB.out, hlt0⟩ (fun hH => ?_)
      clear HG HZ HB hlt0
      obtain ⟨W0, hW0⟩ : ∃ W, W = wo.drew := ⟨_, rfl⟩
      rw [← hW0] at hH ⊢
      clear hW0
      refine wpAnyH_take (i := 0) rfl (by kernel_rfl) (by kernel_rfl) (by kernel_rfl) (fun _ _ _ h => h) (yields_grid (by rfl) _ rfl w.heap.size rfl (shrinkN g i) (fun W hW => hW.out.1)) hH ?_
      simp only [Act.put, List.setIfInBounds_toArray, List.set_cons_zero, List.set_cons_succ]
      refine wpAnyH_take (i := 1) rfl (by kernel_rfl) (by kernel_rfl) (by kernel_rfl) (fun _ _ _ h => h) (yields_grid (by rfl) _ rfl w.heap.size rfl (shrinkN g i) (fun W hW => hW.out.1)) hH ?_
      simp only [Act.put, List.setIfInBounds_toArray, List.set_cons_zero, List.set_cons_succ]
      refine wpAnyH_ready (rs := [2, 3, 4]) (by kernel_rfl) (by simp) ?_
      refine AllReadyH.cons (i := 2) rfl ?_ (AllReadyH.cons (i := 3) rfl ?_ (AllReadyH.cons (i := 4) rfl ?_ (AllReadyH.nil)))
      · intro K hK
        rw [if_pos (by rfl)]
        go_simp
        go_wp2_with (first | (go_at_call 72; refine (edge_calls _ _).mono ?_; rintro e W1 ⟨rfl, hb⟩))
        refine hK.out _ _ ⟨hH.out.1.below hb, hH.out.2.1.below hb, below_then hH.out.2.2.1 hH.out.2.2.1.size hb, Nat.lt_of_lt_of_le hH.out.2.2.2 hb.size⟩ (fun hH1 => ?_)
        clear hK K
        clear hb hH
        have hH := hH1
        clear hH1
        try simp only [Act.put, List.setIfInBounds_toArray, List.set_cons_zero, List.set_cons_succ]
        refine wpAnyH_ready (rs := [3, 4]) (by kernel_rfl) (by simp) ?_
        refine AllReadyH.cons (i := 3) rfl ?_ (AllReadyH.cons (i := 4) rfl ?_ (AllReadyH.nil))
        · intro K hK
          rw [if_pos (by rfl)]
          go_simp
          refine hK.out _ _ ⟨hH.out.1.alloc _, hH.out.2.1.alloc _, below_alloc hH.out.2.2.1 _, by have := hH.out.2.2.2; simp only [World.size_alloc]; omega⟩ (fun hH1 => ?_)
          clear hK K
          have HN5 := Aside0.mk (GridAt.new W1 (fun _ => false))
          obtain ⟨W2, hW⟩ : ∃ W, W = W1.alloc (.cells (gc fun _ => false) 66) := ⟨_, rfl⟩
          rw [← hW] at hH1 HN5 ⊢
          obtain ⟨B5, hB5⟩ : ∃ B, B = W1.heap.size := ⟨_, rfl⟩
          have hl5 : w.heap.size + 1 < B5 := by rw [hB5]; exact hH.out.2.2.2
          rw [← hB5] at HN5 ⊢
          clear hW hB5 hH
          have hH := hH1
          clear hH1
          try simp only [Act.put, List.setIfInBounds_toArray, List.set_cons_zero, List.set_cons_succ]
          refine wpAnyH_ready (rs := [4]) (by kernel_rfl) (by simp) ?_
          refine AllReadyH.cons (i := 4) rfl ?_ (AllReadyH.nil)
          · have HN50 := HN5
            intro K hK
            rw [if_pos (by rfl)]
            go_simp
            refine hK.out _ _ ⟨hH.out.1.alloc _, hH.out.2.1.alloc _, below_alloc hH.out.2.2.1 _, by have := hH.out.2.2.2; simp only [World.size_alloc]; omega⟩ (fun hH1 => ?_)
            clear hK K
            have HN6 := Aside0.mk (GridAt.new W2 (fun _ => false))
            replace HN5 := Aside0.mk (GridAt.alloc HN5.out (.cells (gc fun _ => false) 66))
            obtain ⟨W3, hW⟩ : ∃ W, W = W2.alloc (.cells (gc fun _ => false) 66) := ⟨_, rfl⟩
            rw [← hW] at hH1 HN6 HN5 ⊢
            obtain ⟨B6, hB6⟩ : ∃ B, B = W2.heap.size := ⟨_, rfl⟩
            have hl6 : w.heap.size + 1 < B6 := by rw [hB6]; exact hH.out.2.2.2
            have hne : B5 ≠ B6 := by have := GridAt.lt HN50.out; omega
            rw [← hB6] at HN6 ⊢
            clear hW hB6 hH
            have hH := hH1
            clear hH1
            clear HN50
            try simp only [Act.put, List.setIfInBounds_toArray, List.set_cons_zero, List.set_cons_succ]
            refine wpAnyH_ready (rs := [5]) (by kernel_rfl) (by simp) ?_
            refine AllReadyH.cons (i := 5) rfl ?_ AllReadyH.nil
            intro K hK
            rw [if_pos (by rfl)]
            have hx5 : W3.heap[B5]? = some (.cells (gc fun _ => false) 66 (0, 0)) := HN5.out
            (with_reducible refine wp_store_row 66 (.tmp 5) (.tmp 10) rfl B5 (gc (shrinkN g i)) ?hx ?hy 66 (gc fun _ => false) hx5 (HI.out _) (HSZ.out _ _) (HO.out _) ?_)
            case hx => rfl
            case hy => rfl
            clear hx5
            have hH1 : Aside0 (GridAt (W3.setRow B5 (gc (shrinkN g i))) w.heap.size (shrinkN g i) ∧ GridAt (W3.setRow B5 (gc (shrinkN g i))) (w.heap.size + 1) (fun _ => false) ∧ Below w.heap.size w (W3.setRow B5 (gc (shrinkN g i))) ∧ w.heap.size + 1 < (W3.setRow B5 (gc (shrinkN g i))).heap.size) := ⟨setRow_keepS hH.out.1 _ (by omega), setRow_keepS hH.out.2.1 _ (by omega), below_setRow hH.out.2.2.1 (by omega) _, by rw [setRow_size]; exact hH.out.2.2.2⟩
            have HN61 : Aside0 (GridAt (W3.setRow B5 (gc (shrinkN g i))) B6 (fun _ => false)) := Aside0.mk (setRow_keepS HN6.out (gc (shrinkN g i)) (show B6 ≠ B5 by omega))
            have HN51 : Aside0 (GridAt (W3.setRow B5 (gc (shrinkN g i))) B5 (shrinkN g i)) := Aside0.mk (GridAt.setRow (g := fun _ => false) HN5.out (shrinkN g i))
            refine hK.out _ _ hH1 (fun _ => ?_)
            clear hK K hH HN5 HN6
            have hH := hH1
            have HN5 := HN51
            have HN6 := HN61
            clear hH1 HN51 HN61
            obtain ⟨X1, hW⟩ : ∃ W, W = W3.setRow B5 (gc (shrinkN g i)) := ⟨_, rfl⟩
            rw [← hW] at hH HN5 HN6 ⊢
            clear hW
            try simp only [Act.put, List.setIfInBounds_toArray, List.set_cons_zero, List.set_cons_succ]
            refine wpAnyH_ready (rs := [6]) (by kernel_rfl) (by simp) ?_
            refine AllReadyH.cons (i := 6) rfl ?_ AllReadyH.nil
            intro K hK
            rw [if_pos (by rfl)]
            have hx6 : X1.heap[B6]? = some (.cells (gc fun _ => false) 66 (0, 0)) := HN6.out
            (with_reducible refine wp_store_row 66 (.tmp 6) (.tmp 12) rfl B6 (gc (gso (edgeP (shrinkN g i)) 256)) ?hx ?hy 66 (gc fun _ => false) hx6 (HI.out _) (HSZ.out _ _) (HO.out _) ?_)
            case hx => rfl
            case hy => rfl
            clear hx6
            have hH1 : Aside0 (GridAt (X1.setRow B6 (gc (gso (edgeP (shrinkN g i)) 256))) w.heap.size (shrinkN g i) ∧ GridAt (X1.setRow B6 (gc (gso (edgeP (shrinkN g i)) 256))) (w.heap.size + 1) (fun _ => false) ∧ Below w.heap.size w (X1.setRow B6 (gc (gso (edgeP (shrinkN g i)) 256))) ∧ w.heap.size + 1 < (X1.setRow B6 (gc (gso (edgeP (shrinkN g i)) 256))).heap.size) := ⟨setRow_keepS hH.out.1 _ (by omega), setRow_keepS hH.out.2.1 _ (by omega), below_setRow hH.out.2.2.1 (by omega) _, by rw [setRow_size]; exact hH.out.2.2.2⟩
            have HN51 : Aside0 (GridAt (X1.setRow B6 (gc (gso (edgeP (shrinkN g i)) 256))) B5 (shrinkN g i)) := Aside0.mk (setRow_keepS HN5.out (gc (gso (edgeP (shrinkN g i)) 256)) (show B5 ≠ B6 by omega))
            have HN61 : Aside0 (GridAt (X1.setRow B6 (gc (gso (edgeP (shrinkN g i)) 256))) B6 (gso (edgeP (shrinkN g i)) 256)) := Aside0.mk (GridAt.setRow (g := fun _ => false) HN6.out (gso (edgeP (shrinkN g i)) 256))
            refine hK.out _ _ hH1 (fun _ => ?_)
            clear hK K hH HN5 HN6
            have hH := hH1
            have HN5 := HN51
            have HN6 := HN61
            clear hH1 HN51 HN61
            obtain ⟨X2, hW⟩ : ∃ W, W = X1.setRow B6 (gc (gso (edgeP (shrinkN g i)) 256)) := ⟨_, rfl⟩
            rw [← hW] at hH HN5 HN6 ⊢
            clear hW
            try simp only [Act.put, List.setIfInBounds_toArray, List.set_cons_zero, List.set_cons_succ]
            refine wpAnyH_done (by kernel_rfl) ?_ _
            have HG2 : Aside0 (X2.heap[w.heap.size]? = some (.cells (gc (shrinkN g i)) 66 (0, 0))) := Aside0.mk hH.out.1
            go_wp2_with (first
              | (go_at_call 62; refine (gridBy_calls 88 #[.pointer (some ⟨B5, 0, none⟩), .pointer (some ⟨B6, 0, none⟩)] (shrinkP (shrinkN g i)) X2 (enters_of Try.func88 (by kernel_rfl) rfl) (fun W x y hx hy hW => shrunk1_calls (shrinkN g i) (gso (edgeP (shrinkN g i)) 256) x y hx hy _ _ W (HN5.out.below hW) (HN6.out.below hW))).mono ?_; rintro e w2 ⟨rfl, hb2⟩; have HB3 := Aside0.mk (below_then hH.out.2.2.1 hH.out.2.2.1.size hb2); have HG3 : Aside0 (w2.heap[w.heap.size]? = some (.cells (gc (shrinkN g i)) 66 (0, 0))) := Aside0.mk (blk_below HG2.out hb2); have HZ3 := Aside0.mk (GridAt.below hH.out.2.1 hb2); clear hb2)
              | ((with_reducible refine wpList_store_row rfl 66 (.tmp 2) (.tmp 14) rfl w.heap.size (gc (gso (shrinkP (shrinkN g i)) 256)) ?hx ?hy 66 (gc (shrinkN g i)) HG3.out (HI.out _) (HSZ.out _ _) (HO.out _) ?_); (case hx => rfl); (case hy => rfl)))
            go_roundw
            case rel => exact ⟨i + 1, by go_num, by omega, ⟨GridAt.setRow (g := shrinkN g i) HG3.out _⟩, ⟨setRow_keepS HZ3.out _ (by omega)⟩, ⟨below_setRow HB3.out (Nat.le_refl _) _⟩⟩
            case measure => simp [intOf]; omega
        · intro K hK
          rw [if_pos (by rfl)]
          go_simp
          refine hK.out _ _ ⟨hH.out.1.alloc _, hH.out.2.1.alloc _, below_alloc hH.out.2.2.1 _, by have := hH.out.2.2.2; simp only [World.size_alloc]; omega⟩ (fun hH1 => ?_)
          clear hK K
          have HN6 := Aside0.mk (GridAt.new W1 (fun _ => false))
          obtain ⟨W2, hW⟩ : ∃ W, W = W1.alloc (.cells (gc fun _ => false) 66) := ⟨_, rfl⟩
          rw [← hW] at hH1 HN6 ⊢
          obtain ⟨B6, hB6⟩ : ∃ B, B = W1.heap.size := ⟨_, rfl⟩
          have hl6 : w.heap.size + 1 < B6 := by rw [hB6]; exact hH.out.2.2.2
          rw [← hB6] at HN6 ⊢
          clear hW hB6 hH
          have hH := hH1
          clear hH1
          try simp only [Act.put, List.setIfInBounds_toArray, List.set_cons_zero, List.set_cons_succ]
          refine wpAnyH_ready (rs := [3]) (by kernel_rfl) (by simp) ?_
          refine AllReadyH.cons (i := 3) rfl ?_ (AllReadyH.nil)
          · have HN60 := HN6
            intro K hK
            rw [if_pos (by rfl)]
            go_simp
            refine hK.out _ _ ⟨hH.out.1.alloc _, hH.out.2.1.alloc _, below_alloc hH.out.2.2.1 _, by have := hH.out.2.2.2; simp only [World.size_alloc]; omega⟩ (fun hH1 => ?_)
            clear hK K
            have HN5 := Aside0.mk (GridAt.new W2 (fun _ => false))
            replace HN6 := Aside0.mk (GridAt.alloc HN6.out (.cells (gc fun _ => false) 66))
            obtain ⟨W3, hW⟩ : ∃ W, W = W2.alloc (.cells (gc fun _ => false) 66) := ⟨_, rfl⟩
            rw [← hW] at hH1 HN5 HN6 ⊢
            obtain ⟨B5, hB5⟩ : ∃ B, B = W2.heap.size := ⟨_, rfl⟩
            have hl5 : w.heap.size + 1 < B5 := by rw [hB5]; exact hH.out.2.2.2
            have hne : B6 ≠ B5 := by have := GridAt.lt HN60.out; omega
            rw [← hB5] at HN5 ⊢
            clear hW hB5 hH
            have hH := hH1
            clear hH1
            clear HN60
            try simp only [Act.put, List.setIfInBounds_toArray, List.set_cons_zero, List.set_cons_succ]
            refine wpAnyH_ready (rs := [5]) (by kernel_rfl) (by simp) ?_
            refine AllReadyH.cons (i := 5) rfl ?_ AllReadyH.nil
            intro K hK
            rw [if_pos (by rfl)]
            have hx5 : W3.heap[B5]? = some (.cells (gc fun _ => false) 66 (0, 0)) := HN5.out
            (with_reducible refine wp_store_row 66 (.tmp 5) (.tmp 10) rfl B5 (gc (shrinkN g i)) ?hx ?hy 66 (gc fun _ => false) hx5 (HI.out _) (HSZ.out _ _) (HO.out _) ?_)
            case hx => rfl
            case hy => rfl
            clear hx5
            have hH1 : Aside0 (GridAt (W3.setRow B5 (gc (shrinkN g i))) w.heap.size (shrinkN g i) ∧ GridAt (W3.setRow B5 (gc (shrinkN g i))) (w.heap.size + 1) (fun _ => false) ∧ Below w.heap.size w (W3.setRow B5 (gc (shrinkN g i))) ∧ w.heap.size + 1 < (W3.setRow B5 (gc (shrinkN g i))).heap.size) := ⟨setRow_keepS hH.out.1 _ (by omega), setRow_keepS hH.out.2.1 _ (by omega), below_setRow hH.out.2.2.1 (by omega) _, by rw [setRow_size]; exact hH.out.2.2.2⟩
            have HN61 : Aside0 (GridAt (W3.setRow B5 (gc (shrinkN g i))) B6 (fun _ => false)) := Aside0.mk (setRow_keepS HN6.out (gc (shrinkN g i)) (show B6 ≠ B5 by omega))
            have HN51 : Aside0 (GridAt (W3.setRow B5 (gc (shrinkN g i))) B5 (shrinkN g i)) := Aside0.mk (GridAt.setRow (g := fun _ => false) HN5.out (shrinkN g i))
            refine hK.out _ _ hH1 (fun _ => ?_)
            clear hK K hH HN5 HN6
            have hH := hH1
            have HN5 := HN51
            have HN6 := HN61
            clear hH1 HN51 HN61
            obtain ⟨X1, hW⟩ : ∃ W, W = W3.setRow B5 (gc (shrinkN g i)) := ⟨_, rfl⟩
            rw [← hW] at hH HN5 HN6 ⊢
            clear hW
            try simp only [Act.put, List.setIfInBounds_toArray, List.set_cons_zero, List.set_cons_succ]
            refine wpAnyH_ready (rs := [6]) (by kernel_rfl) (by simp) ?_
            refine AllReadyH.cons (i := 6) rfl ?_ AllReadyH.nil
            intro K hK
            rw [if_pos (by rfl)]
            have hx6 : X1.heap[B6]? = some (.cells (gc fun _ => false) 66 (0, 0)) := HN6.out
            (with_reducible refine wp_store_row 66 (.tmp 6) (.tmp 12) rfl B6 (gc (gso (edgeP (shrinkN g i)) 256)) ?hx ?hy 66 (gc fun _ => false) hx6 (HI.out _) (HSZ.out _ _) (HO.out _) ?_)
            case hx => rfl
            case hy => rfl
            clear hx6
            have hH1 : Aside0 (GridAt (X1.setRow B6 (gc (gso (edgeP (shrinkN g i)) 256))) w.heap.size (shrinkN g i) ∧ GridAt (X1.setRow B6 (gc (gso (edgeP (shrinkN g i)) 256))) (w.heap.size + 1) (fun _ => false) ∧ Below w.heap.size w (X1.setRow B6 (gc (gso (edgeP (shrinkN g i)) 256))) ∧ w.heap.size + 1 < (X1.setRow B6 (gc (gso (edgeP (shrinkN g i)) 256))).heap.size) := ⟨setRow_keepS hH.out.1 _ (by omega), setRow_keepS hH.out.2.1 _ (by omega), below_setRow hH.out.2.2.1 (by omega) _, by rw [setRow_size]; exact hH.out.2.2.2⟩
            have HN51 : Aside0 (GridAt (X1.setRow B6 (gc (gso (edgeP (shrinkN g i)) 256))) B5 (shrinkN g i)) := Aside0.mk (setRow_keepS HN5.out (gc (gso (edgeP (shrinkN g i)) 256)) (show B5 ≠ B6 by omega))
            have HN61 : Aside0 (GridAt (X1.setRow B6 (gc (gso (edgeP (shrinkN g i)) 256))) B6 (gso (edgeP (shrinkN g i)) 256)) := Aside0.mk (GridAt.setRow (g := fun _ => false) HN6.out (gso (edgeP (shrinkN g i)) 256))
            refine hK.out _ _ hH1 (fun _ => ?_)
            clear hK K hH HN5 HN6
            have hH := hH1
            have HN5 := HN51
            have HN6 := HN61
            clear hH1 HN51 HN61
            obtain ⟨X2, hW⟩ : ∃ W, W = X1.setRow B6 (gc (gso (edgeP (shrinkN g i)) 256)) := ⟨_, rfl⟩
            rw [← hW] at hH HN5 HN6 ⊢
            clear hW
            try simp only [Act.put, List.setIfInBounds_toArray, List.set_cons_zero, List.set_cons_succ]
            refine wpAnyH_done (by kernel_rfl) ?_ _
            have HG2 : Aside0 (X2.heap[w.heap.size]? = some (.cells (gc (shrinkN g i)) 66 (0, 0))) := Aside0.mk hH.out.1
            go_wp2_with (first
              | (go_at_call 62; refine (gridBy_calls 88 #[.pointer (some ⟨B5, 0, none⟩), .pointer (some ⟨B6, 0, none⟩)] (shrinkP (shrinkN g i)) X2 (enters_of Try.func88 (by kernel_rfl) rfl) (fun W x y hx hy hW => shrunk1_calls (shrinkN g i) (gso (edgeP (shrinkN g i)) 256) x y hx hy _ _ W (HN5.out.below hW) (HN6.out.below hW))).mono ?_; rintro e w2 ⟨rfl, hb2⟩; have HB3 := Aside0.mk (below_then hH.out.2.2.1 hH.out.2.2.1.size hb2); have HG3 : Aside0 (w2.heap[w.heap.size]? = some (.cells (gc (shrinkN g i)) 66 (0, 0))) := Aside0.mk (blk_below HG2.out hb2); have HZ3 := Aside0.mk (GridAt.below hH.out.2.1 hb2); clear hb2)
              | ((with_reducible refine wpList_store_row rfl 66 (.tmp 2) (.tmp 14) rfl w.heap.size (gc (gso (shrinkP (shrinkN g i)) 256)) ?hx ?hy 66 (gc (shrinkN g i)) HG3.out (HI.out _) (HSZ.out _ _) (HO.out _) ?_); (case hx => rfl); (case hy => rfl)))
            go_roundw
            case rel => exact ⟨i + 1, by go_num, by omega, ⟨GridAt.setRow (g := shrinkN g i) HG3.out _⟩, ⟨setRow_keepS HZ3.out _ (by omega)⟩, ⟨below_setRow HB3.out (Nat.le_refl _) _⟩⟩
            case measure => simp [intOf]; omega
      · intro K hK
        rw [if_pos (by rfl)]
        go_simp
        refine hK.out _ _ ⟨hH.out.1.alloc _, hH.out.2.1.alloc _, below_alloc hH.out.2.2.1 _, by have := hH.out.2.2.2; simp only [World.size_alloc]; omega⟩ (fun hH1 => ?_)
        clear hK K
        have HN5 := Aside0.mk (GridAt.new W0 (fun _ => false))
        obtain ⟨W1, hW⟩ : ∃ W, W = W0.alloc (.cells (gc fun _ => false) 66) := ⟨_, rfl⟩
        rw [← hW] at hH1 HN5 ⊢
        obtain ⟨B5, hB5⟩ : ∃ B, B = W0.heap.size := ⟨_, rfl⟩
        have hl5 : w.heap.size + 1 < B5 := by rw [hB5]; exact hH.out.2.2.2
        rw [← hB5] at HN5 ⊢
        clear hW hB5 hH
        have hH := hH1
        clear hH1
        try simp only [Act.put, List.setIfInBounds_toArray, List.set_cons_zero, List.set_cons_succ]
        refine wpAnyH_ready (rs := [2, 4]) (by kernel_rfl) (by simp) ?_
        refine AllReadyH.cons (i := 2) rfl ?_ (AllReadyH.cons (i := 4) rfl ?_ (AllReadyH.nil))
        · intro K hK
          rw [if_pos (by rfl)]
          go_simp
          go_wp2_with (first | (go_at_call 72; refine (edge_calls _ _).mono ?_; rintro e W2 ⟨rfl, hb⟩))
          refine hK.out _ _ ⟨hH.out.1.below hb, hH.out.2.1.below hb, below_then hH.out.2.2.1 hH.out.2.2.1.size hb, Nat.lt_of_lt_of_le hH.out.2.2.2 hb.size⟩ (fun hH1 => ?_)
          clear hK K
          replace HN5 := Aside0.mk (GridAt.below HN5.out hb)
          clear hb hH
          have hH := hH1
          clear hH1
          try simp only [Act.put, List.setIfInBounds_toArray, List.set_cons_zero, List.set_cons_succ]
          refine wpAnyH_ready (rs := [4]) (by kernel_rfl) (by simp) ?_
          refine AllReadyH.cons (i := 4) rfl ?_ (AllReadyH.nil)
          · have HN50 := HN5
            intro K hK
            rw [if_pos (by rfl)]
            go_simp
            refine hK.out _ _ ⟨hH.out.1.alloc _, hH.out.2.1.alloc _, below_alloc hH.out.2.2.1 _, by have := hH.out.2.2.2; simp only [World.size_alloc]; omega⟩ (fun hH1 => ?_)
            clear hK K
            have HN6 := Aside0.mk (GridAt.new W2 (fun _ => false))
            replace HN5 := Aside0.mk (GridAt.alloc HN5.out (.cells (gc fun _ => false) 66))
            obtain ⟨W3, hW⟩ : ∃ W, W = W2.alloc (.cells (gc fun _ => false) 66) := ⟨_, rfl⟩
            rw [← hW] at hH1 HN6 HN5 ⊢
            obtain ⟨B6, hB6⟩ : ∃ B, B = W2.heap.size := ⟨_, rfl⟩
            have hl6 : w.heap.size + 1 < B6 := by rw [hB6]; exact hH.out.2.2.2
            have hne : B5 ≠ B6 := by have := GridAt.lt HN50.out; omega
            rw [← hB6] at HN6 ⊢
            clear hW hB6 hH
            have hH := hH1
            clear hH1
            clear HN50
            try simp only [Act.put, List.setIfInBounds_toArray, List.set_cons_zero, List.set_cons_succ]
            refine wpAnyH_ready (rs := [5]) (by kernel_rfl) (by simp) ?_
            refine AllReadyH.cons (i := 5) rfl ?_ AllReadyH.nil
            intro K hK
            rw [if_pos (by rfl)]
            have hx5 : W3.heap[B5]? = some (.cells (gc fun _ => false) 66 (0, 0)) := HN5.out
            (with_reducible refine wp_store_row 66 (.tmp 5) (.tmp 10) rfl B5 (gc (shrinkN g i)) ?hx ?hy 66 (gc fun _ => false) hx5 (HI.out _) (HSZ.out _ _) (HO.out _) ?_)
            case hx => rfl
            case hy => rfl
            clear hx5
            have hH1 : Aside0 (GridAt (W3.setRow B5 (gc (shrinkN g i))) w.heap.size (shrinkN g i) ∧ GridAt (W3.setRow B5 (gc (shrinkN g i))) (w.heap.size + 1) (fun _ => false) ∧ Below w.heap.size w (W3.setRow B5 (gc (shrinkN g i))) ∧ w.heap.size + 1 < (W3.setRow B5 (gc (shrinkN g i))).heap.size) := ⟨setRow_keepS hH.out.1 _ (by omega), setRow_keepS hH.out.2.1 _ (by omega), below_setRow hH.out.2.2.1 (by omega) _, by rw [setRow_size]; exact hH.out.2.2.2⟩
            have HN61 : Aside0 (GridAt (W3.setRow B5 (gc (shrinkN g i))) B6 (fun _ => false)) := Aside0.mk (setRow_keepS HN6.out (gc (shrinkN g i)) (show B6 ≠ B5 by omega))
            have HN51 : Aside0 (GridAt (W3.setRow B5 (gc (shrinkN g i))) B5 (shrinkN g i)) := Aside0.mk (GridAt.setRow (g := fun _ => false) HN5.out (shrinkN g i))
            refine hK.out _ _ hH1 (fun _ => ?_)
            clear hK K hH HN5 HN6
            have hH := hH1
            have HN5 := HN51
            have HN6 := HN61
            clear hH1 HN51 HN61
            obtain ⟨X1, hW⟩ : ∃ W, W = W3.setRow B5 (gc (shrinkN g i)) := ⟨_, rfl⟩
            rw [← hW] at hH HN5 HN6 ⊢
            clear hW
            try simp only [Act.put, List.setIfInBounds_toArray, List.set_cons_zero, List.set_cons_succ]
            refine wpAnyH_ready (rs := [6]) (by kernel_rfl) (by simp) ?_
            refine AllReadyH.cons (i := 6) rfl ?_ AllReadyH.nil
            intro K hK
            rw [if_pos (by rfl)]
            have hx6 : X1.heap[B6]? = some (.cells (gc fun _ => false) 66 (0, 0)) := HN6.out
            (with_reducible refine wp_store_row 66 (.tmp 6) (.tmp 12) rfl B6 (gc (gso (edgeP (shrinkN g i)) 256)) ?hx ?hy 66 (gc fun _ => false) hx6 (HI.out _) (HSZ.out _ _) (HO.out _) ?_)
            case hx => rfl
            case hy => rfl
            clear hx6
            have hH1 : Aside0 (GridAt (X1.setRow B6 (gc (gso (edgeP (shrinkN g i)) 256))) w.heap.size (shrinkN g i) ∧ GridAt (X1.setRow B6 (gc (gso (edgeP (shrinkN g i)) 256))) (w.heap.size + 1) (fun _ => false) ∧ Below w.heap.size w (X1.setRow B6 (gc (gso (edgeP (shrinkN g i)) 256))) ∧ w.heap.size + 1 < (X1.setRow B6 (gc (gso (edgeP (shrinkN g i)) 256))).heap.size) := ⟨setRow_keepS hH.out.1 _ (by omega), setRow_keepS hH.out.2.1 _ (by omega), below_setRow hH.out.2.2.1 (by omega) _, by rw [setRow_size]; exact hH.out.2.2.2⟩
            have HN51 : Aside0 (GridAt (X1.setRow B6 (gc (gso (edgeP (shrinkN g i)) 256))) B5 (shrinkN g i)) := Aside0.mk (setRow_keepS HN5.out (gc (gso (edgeP (shrinkN g i)) 256)) (show B5 ≠ B6 by omega))
            have HN61 : Aside0 (GridAt (X1.setRow B6 (gc (gso (edgeP (shrinkN g i)) 256))) B6 (gso (edgeP (shrinkN g i)) 256)) := Aside0.mk (GridAt.setRow (g := fun _ => false) HN6.out (gso (edgeP (shrinkN g i)) 256))
            refine hK.out _ _ hH1 (fun _ => ?_)
            clear hK K hH HN5 HN6
            have hH := hH1
            have HN5 := HN51
            have HN6 := HN61
            clear hH1 HN51 HN61
            obtain ⟨X2, hW⟩ : ∃ W, W = X1.setRow B6 (gc (gso (edgeP (shrinkN g i)) 256)) := ⟨_, rfl⟩
            rw [← hW] at hH HN5 HN6 ⊢
            clear hW
            try simp only [Act.put, List.setIfInBounds_toArray, List.set_cons_zero, List.set_cons_succ]
            refine wpAnyH_done (by kernel_rfl) ?_ _
            have HG2 : Aside0 (X2.heap[w.heap.size]? = some (.cells (gc (shrinkN g i)) 66 (0, 0))) := Aside0.mk hH.out.1
            go_wp2_with (first
              | (go_at_call 62; refine (gridBy_calls 88 #[.pointer (some ⟨B5, 0, none⟩), .pointer (some ⟨B6, 0, none⟩)] (shrinkP (shrinkN g i)) X2 (enters_of Try.func88 (by kernel_rfl) rfl) (fun W x y hx hy hW => shrunk1_calls (shrinkN g i) (gso (edgeP (shrinkN g i)) 256) x y hx hy _ _ W (HN5.out.below hW) (HN6.out.below hW))).mono ?_; rintro e w2 ⟨rfl, hb2⟩; have HB3 := Aside0.mk (below_then hH.out.2.2.1 hH.out.2.2.1.size hb2); have HG3 : Aside0 (w2.heap[w.heap.size]? = some (.cells (gc (shrinkN g i)) 66 (0, 0))) := Aside0.mk (blk_below HG2.out hb2); have HZ3 := Aside0.mk (GridAt.below hH.out.2.1 hb2); clear hb2)
              | ((with_reducible refine wpList_store_row rfl 66 (.tmp 2) (.tmp 14) rfl w.heap.size (gc (gso (shrinkP (shrinkN g i)) 256)) ?hx ?hy 66 (gc (shrinkN g i)) HG3.out (HI.out _) (HSZ.out _ _) (HO.out _) ?_); (case hx => rfl); (case hy => rfl)))
            go_roundw
            case rel => exact ⟨i + 1, by go_num, by omega, ⟨GridAt.setRow (g := shrinkN g i) HG3.out _⟩, ⟨setRow_keepS HZ3.out _ (by omega)⟩, ⟨below_setRow HB3.out (Nat.le_refl _) _⟩⟩
            case measure => simp [intOf]; omega
        · have HN50 := HN5
          intro K hK
          rw [if_pos (by rfl)]
          go_simp
          refine hK.out _ _ ⟨hH.out.1.alloc _, hH.out.2.1.alloc _, below_alloc hH.out.2.2.1 _, by have := hH.out.2.2.2; simp only [World.size_alloc]; omega⟩ (fun hH1 => ?_)
          clear hK K
          have HN6 := Aside0.mk (GridAt.new W1 (fun _ => false))
          replace HN5 := Aside0.mk (GridAt.alloc HN5.out (.cells (gc fun _ => false) 66))
          obtain ⟨W2, hW⟩ : ∃ W, W = W1.alloc (.cells (gc fun _ => false) 66) := ⟨_, rfl⟩
          rw [← hW] at hH1 HN6 HN5 ⊢
          obtain ⟨B6, hB6⟩ : ∃ B, B = W1.heap.size := ⟨_, rfl⟩
          have hl6 : w.heap.size + 1 < B6 := by rw [hB6]; exact hH.out.2.2.2
          have hne : B5 ≠ B6 := by have := GridAt.lt HN50.out; omega
          rw [← hB6] at HN6 ⊢
          clear hW hB6 hH
          have hH := hH1
          clear hH1
          clear HN50
          try simp only [Act.put, List.setIfInBounds_toArray, List.set_cons_zero, List.set_cons_succ]
          refine wpAnyH_ready (rs := [2]) (by kernel_rfl) (by simp) ?_
          refine AllReadyH.cons (i := 2) rfl ?_ (AllReadyH.nil)
          · intro K hK
            rw [if_pos (by rfl)]
            go_simp
            go_wp2_with (first | (go_at_call 72; refine (edge_calls _ _).mono ?_; rintro e W3 ⟨rfl, hb⟩))
            refine hK.out _ _ ⟨hH.out.1.below hb, hH.out.2.1.below hb, below_then hH.out.2.2.1 hH.out.2.2.1.size hb, Nat.lt_of_lt_of_le hH.out.2.2.2 hb.size⟩ (fun hH1 => ?_)
            clear hK K
            replace HN5 := Aside0.mk (GridAt.below HN5.out hb)
            replace HN6 := Aside0.mk (GridAt.below HN6.out hb)
            clear hb hH
            have hH := hH1
            clear hH1
            try simp only [Act.put, List.setIfInBounds_toArray, List.set_cons_zero, List.set_cons_succ]
            refine wpAnyH_ready (rs := [5]) (by kernel_rfl) (by simp) ?_
            refine AllReadyH.cons (i := 5) rfl ?_ AllReadyH.nil
            intro K hK
            rw [if_pos (by rfl)]
            have hx5 : W3.heap[B5]? = some (.cells (gc fun _ => false) 66 (0, 0)) := HN5.out
            (with_reducible refine wp_store_row 66 (.tmp 5) (.tmp 10) rfl B5 (gc (shrinkN g i)) ?hx ?hy 66 (gc fun _ => false) hx5 (HI.out _) (HSZ.out _ _) (HO.out _) ?_)
            case hx => rfl
            case hy => rfl
            clear hx5
            have hH1 : Aside0 (GridAt (W3.setRow B5 (gc (shrinkN g i))) w.heap.size (shrinkN g i) ∧ GridAt (W3.setRow B5 (gc (shrinkN g i))) (w.heap.size + 1) (fun _ => false) ∧ Below w.heap.size w (W3.setRow B5 (gc (shrinkN g i))) ∧ w.heap.size + 1 < (W3.setRow B5 (gc (shrinkN g i))).heap.size) := ⟨setRow_keepS hH.out.1 _ (by omega), setRow_keepS hH.out.2.1 _ (by omega), below_setRow hH.out.2.2.1 (by omega) _, by rw [setRow_size]; exact hH.out.2.2.2⟩
            have HN61 : Aside0 (GridAt (W3.setRow B5 (gc (shrinkN g i))) B6 (fun _ => false)) := Aside0.mk (setRow_keepS HN6.out (gc (shrinkN g i)) (show B6 ≠ B5 by omega))
            have HN51 : Aside0 (GridAt (W3.setRow B5 (gc (shrinkN g i))) B5 (shrinkN g i)) := Aside0.mk (GridAt.setRow (g := fun _ => false) HN5.out (shrinkN g i))
            refine hK.out _ _ hH1 (fun _ => ?_)
            clear hK K hH HN5 HN6
            have hH := hH1
            have HN5 := HN51
            have HN6 := HN61
            clear hH1 HN51 HN61
            obtain ⟨X1, hW⟩ : ∃ W, W = W3.setRow B5 (gc (shrinkN g i)) := ⟨_, rfl⟩
            rw [← hW] at hH HN5 HN6 ⊢
            clear hW
            try simp only [Act.put, List.setIfInBounds_toArray, List.set_cons_zero, List.set_cons_succ]
            refine wpAnyH_ready (rs := [6]) (by kernel_rfl) (by simp) ?_
            refine AllReadyH.cons (i := 6) rfl ?_ AllReadyH.nil
            intro K hK
            rw [if_pos (by rfl)]
            have hx6 : X1.heap[B6]? = some (.cells (gc fun _ => false) 66 (0, 0)) := HN6.out
            (with_reducible refine wp_store_row 66 (.tmp 6) (.tmp 12) rfl B6 (gc (gso (edgeP (shrinkN g i)) 256)) ?hx ?hy 66 (gc fun _ => false) hx6 (HI.out _) (HSZ.out _ _) (HO.out _) ?_)
            case hx => rfl
            case hy => rfl
            clear hx6
            have hH1 : Aside0 (GridAt (X1.setRow B6 (gc (gso (edgeP (shrinkN g i)) 256))) w.heap.size (shrinkN g i) ∧ GridAt (X1.setRow B6 (gc (gso (edgeP (shrinkN g i)) 256))) (w.heap.size + 1) (fun _ => false) ∧ Below w.heap.size w (X1.setRow B6 (gc (gso (edgeP (shrinkN g i)) 256))) ∧ w.heap.size + 1 < (X1.setRow B6 (gc (gso (edgeP (shrinkN g i)) 256))).heap.size) := ⟨setRow_keepS hH.out.1 _ (by omega), setRow_keepS hH.out.2.1 _ (by omega), below_setRow hH.out.2.2.1 (by omega) _, by rw [setRow_size]; exact hH.out.2.2.2⟩
            have HN51 : Aside0 (GridAt (X1.setRow B6 (gc (gso (edgeP (shrinkN g i)) 256))) B5 (shrinkN g i)) := Aside0.mk (setRow_keepS HN5.out (gc (gso (edgeP (shrinkN g i)) 256)) (show B5 ≠ B6 by omega))
            have HN61 : Aside0 (GridAt (X1.setRow B6 (gc (gso (edgeP (shrinkN g i)) 256))) B6 (gso (edgeP (shrinkN g i)) 256)) := Aside0.mk (GridAt.setRow (g := fun _ => false) HN6.out (gso (edgeP (shrinkN g i)) 256))
            refine hK.out _ _ hH1 (fun _ => ?_)
            clear hK K hH HN5 HN6
            have hH := hH1
            have HN5 := HN51
            have HN6 := HN61
            clear hH1 HN51 HN61
            obtain ⟨X2, hW⟩ : ∃ W, W = X1.setRow B6 (gc (gso (edgeP (shrinkN g i)) 256)) := ⟨_, rfl⟩
            rw [← hW] at hH HN5 HN6 ⊢
            clear hW
            try simp only [Act.put, List.setIfInBounds_toArray, List.set_cons_zero, List.set_cons_succ]
            refine wpAnyH_done (by kernel_rfl) ?_ _
            have HG2 : Aside0 (X2.heap[w.heap.size]? = some (.cells (gc (shrinkN g i)) 66 (0, 0))) := Aside0.mk hH.out.1
            go_wp2_with (first
              | (go_at_call 62; refine (gridBy_calls 88 #[.pointer (some ⟨B5, 0, none⟩), .pointer (some ⟨B6, 0, none⟩)] (shrinkP (shrinkN g i)) X2 (enters_of Try.func88 (by kernel_rfl) rfl) (fun W x y hx hy hW => shrunk1_calls (shrinkN g i) (gso (edgeP (shrinkN g i)) 256) x y hx hy _ _ W (HN5.out.below hW) (HN6.out.below hW))).mono ?_; rintro e w2 ⟨rfl, hb2⟩; have HB3 := Aside0.mk (below_then hH.out.2.2.1 hH.out.2.2.1.size hb2); have HG3 : Aside0 (w2.heap[w.heap.size]? = some (.cells (gc (shrinkN g i)) 66 (0, 0))) := Aside0.mk (blk_below HG2.out hb2); have HZ3 := Aside0.mk (GridAt.below hH.out.2.1 hb2); clear hb2)
              | ((with_reducible refine wpList_store_row rfl 66 (.tmp 2) (.tmp 14) rfl w.heap.size (gc (gso (shrinkP (shrinkN g i)) 256)) ?hx ?hy 66 (gc (shrinkN g i)) HG3.out (HI.out _) (HSZ.out _ _) (HO.out _) ?_); (case hx => rfl); (case hy => rfl)))
            go_roundw
            case rel => exact ⟨i + 1, by go_num, by omega, ⟨GridAt.setRow (g := shrinkN g i) HG3.out _⟩, ⟨setRow_keepS HZ3.out _ (by omega)⟩, ⟨below_setRow HB3.out (Nat.le_refl _) _⟩⟩
            case measure => simp [intOf]; omega
      · intro K hK
        rw [if_pos (by rfl)]
        go_simp
        refine hK.out _ _ ⟨hH.out.1.alloc _, hH.out.2.1.alloc _, below_alloc hH.out.2.2.1 _, by have := hH.out.2.2.2; simp only [World.size_alloc]; omega⟩ (fun hH1 => ?_)
        clear hK K
        have HN6 := Aside0.mk (GridAt.new W0 (fun _ => false))
        obtain ⟨W1, hW⟩ : ∃ W, W = W0.alloc (.cells (gc fun _ => false) 66) := ⟨_, rfl⟩
        rw [← hW] at hH1 HN6 ⊢
        obtain ⟨B6, hB6⟩ : ∃ B, B = W0.heap.size := ⟨_, rfl⟩
        have hl6 : w.heap.size + 1 < B6 := by rw [hB6]; exact hH.out.2.2.2
        rw [← hB6] at HN6 ⊢
        clear hW hB6 hH
        have hH := hH1
        clear hH1
        try simp only [Act.put, List.setIfInBounds_toArray, List.set_cons_zero, List.set_cons_succ]
        refine wpAnyH_ready (rs := [2, 3]) (by kernel_rfl) (by simp) ?_
        refine AllReadyH.cons (i := 2) rfl ?_ (AllReadyH.cons (i := 3) rfl ?_ (AllReadyH.nil))
        · intro K hK
          rw [if_pos (by rfl)]
          go_simp
          go_wp2_with (first | (go_at_call 72; refine (edge_calls _ _).mono ?_; rintro e W2 ⟨rfl, hb⟩))
          refine hK.out _ _ ⟨hH.out.1.below hb, hH.out.2.1.below hb, below_then hH.out.2.2.1 hH.out.2.2.1.size hb, Nat.lt_of_lt_of_le hH.out.2.2.2 hb.size⟩ (fun hH1 => ?_)
          clear hK K
          replace HN6 := Aside0.mk (GridAt.below HN6.out hb)
          clear hb hH
          have hH := hH1
          clear hH1
          try simp only [Act.put, List.setIfInBounds_toArray, List.set_cons_zero, List.set_cons_succ]
          refine wpAnyH_ready (rs := [3]) (by kernel_rfl) (by simp) ?_
          refine AllReadyH.cons (i := 3) rfl ?_ (AllReadyH.nil)
          · have HN60 := HN6
            intro K hK
            rw [if_pos (by rfl)]
            go_simp
            refine hK.out _ _ ⟨hH.out.1.alloc _, hH.out.2.1.alloc _, below_alloc hH.out.2.2.1 _, by have := hH.out.2.2.2; simp only [World.size_alloc]; omega⟩ (fun hH1 => ?_)
            clear hK K
            have HN5 := Aside0.mk (GridAt.new W2 (fun _ => false))
            replace HN6 := Aside0.mk (GridAt.alloc HN6.out (.cells (gc fun _ => false) 66))
            obtain ⟨W3, hW⟩ : ∃ W, W = W2.alloc (.cells (gc fun _ => false) 66) := ⟨_, rfl⟩
            rw [← hW] at hH1 HN5 HN6 ⊢
            obtain ⟨B5, hB5⟩ : ∃ B, B = W2.heap.size := ⟨_, rfl⟩
            have hl5 : w.heap.size + 1 < B5 := by rw [hB5]; exact hH.out.2.2.2
            have hne : B6 ≠ B5 := by have := GridAt.lt HN60.out; omega
            rw [← hB5] at HN5 ⊢
            clear hW hB5 hH
            have hH := hH1
            clear hH1
            clear HN60
            try simp only [Act.put, List.setIfInBounds_toArray, List.set_cons_zero, List.set_cons_succ]
            refine wpAnyH_ready (rs := [5]) (by kernel_rfl) (by simp) ?_
            refine AllReadyH.cons (i := 5) rfl ?_ AllReadyH.nil
            intro K hK
            rw [if_pos (by rfl)]
            have hx5 : W3.heap[B5]? = some (.cells (gc fun _ => false) 66 (0, 0)) := HN5.out
            (with_reducible refine wp_store_row 66 (.tmp 5) (.tmp 10) rfl B5 (gc (shrinkN g i)) ?hx ?hy 66 (gc fun _ => false) hx5 (HI.out _) (HSZ.out _ _) (HO.out _) ?_)
            case hx => rfl
            case hy => rfl
            clear hx5
            have hH1 : Aside0 (GridAt (W3.setRow B5 (gc (shrinkN g i))) w.heap.size (shrinkN g i) ∧ GridAt (W3.setRow B5 (gc (shrinkN g i))) (w.heap.size + 1) (fun _ => false) ∧ Below w.heap.size w (W3.setRow B5 (gc (shrinkN g i))) ∧ w.heap.size + 1 < (W3.setRow B5 (gc (shrinkN g i))).heap.size) := ⟨setRow_keepS hH.out.1 _ (by omega), setRow_keepS hH.out.2.1 _ (by omega), below_setRow hH.out.2.2.1 (by omega) _, by rw [setRow_size]; exact hH.out.2.2.2⟩
            have HN61 : Aside0 (GridAt (W3.setRow B5 (gc (shrinkN g i))) B6 (fun _ => false)) := Aside0.mk (setRow_keepS HN6.out (gc (shrinkN g i)) (show B6 ≠ B5 by omega))
            have HN51 : Aside0 (GridAt (W3.setRow B5 (gc (shrinkN g i))) B5 (shrinkN g i)) := Aside0.mk (GridAt.setRow (g := fun _ => false) HN5.out (shrinkN g i))
            refine hK.out _ _ hH1 (fun _ => ?_)
            clear hK K hH HN5 HN6
            have hH := hH1
            have HN5 := HN51
            have HN6 := HN61
            clear hH1 HN51 HN61
            obtain ⟨X1, hW⟩ : ∃ W, W = W3.setRow B5 (gc (shrinkN g i)) := ⟨_, rfl⟩
            rw [← hW] at hH HN5 HN6 ⊢
            clear hW
            try simp only [Act.put, List.setIfInBounds_toArray, List.set_cons_zero, List.set_cons_succ]
            refine wpAnyH_ready (rs := [6]) (by kernel_rfl) (by simp) ?_
            refine AllReadyH.cons (i := 6) rfl ?_ AllReadyH.nil
            intro K hK
            rw [if_pos (by rfl)]
            have hx6 : X1.heap[B6]? = some (.cells (gc fun _ => false) 66 (0, 0)) := HN6.out
            (with_reducible refine wp_store_row 66 (.tmp 6) (.tmp 12) rfl B6 (gc (gso (edgeP (shrinkN g i)) 256)) ?hx ?hy 66 (gc fun _ => false) hx6 (HI.out _) (HSZ.out _ _) (HO.out _) ?_)
            case hx => rfl
            case hy => rfl
            clear hx6
            have hH1 : Aside0 (GridAt (X1.setRow B6 (gc (gso (edgeP (shrinkN g i)) 256))) w.heap.size (shrinkN g i) ∧ GridAt (X1.setRow B6 (gc (gso (edgeP (shrinkN g i)) 256))) (w.heap.size + 1) (fun _ => false) ∧ Below w.heap.size w (X1.setRow B6 (gc (gso (edgeP (shrinkN g i)) 256))) ∧ w.heap.size + 1 < (X1.setRow B6 (gc (gso (edgeP (shrinkN g i)) 256))).heap.size) := ⟨setRow_keepS hH.out.1 _ (by omega), setRow_keepS hH.out.2.1 _ (by omega), below_setRow hH.out.2.2.1 (by omega) _, by rw [setRow_size]; exact hH.out.2.2.2⟩
            have HN51 : Aside0 (GridAt (X1.setRow B6 (gc (gso (edgeP (shrinkN g i)) 256))) B5 (shrinkN g i)) := Aside0.mk (setRow_keepS HN5.out (gc (gso (edgeP (shrinkN g i)) 256)) (show B5 ≠ B6 by omega))
            have HN61 : Aside0 (GridAt (X1.setRow B6 (gc (gso (edgeP (shrinkN g i)) 256))) B6 (gso (edgeP (shrinkN g i)) 256)) := Aside0.mk (GridAt.setRow (g := fun _ => false) HN6.out (gso (edgeP (shrinkN g i)) 256))
            refine hK.out _ _ hH1 (fun _ => ?_)
            clear hK K hH HN5 HN6
            have hH := hH1
            have HN5 := HN51
            have HN6 := HN61
            clear hH1 HN51 HN61
            obtain ⟨X2, hW⟩ : ∃ W, W = X1.setRow B6 (gc (gso (edgeP (shrinkN g i)) 256)) := ⟨_, rfl⟩
            rw [← hW] at hH HN5 HN6 ⊢
            clear hW
            try simp only [Act.put, List.setIfInBounds_toArray, List.set_cons_zero, List.set_cons_succ]
            refine wpAnyH_done (by kernel_rfl) ?_ _
            have HG2 : Aside0 (X2.heap[w.heap.size]? = some (.cells (gc (shrinkN g i)) 66 (0, 0))) := Aside0.mk hH.out.1
            go_wp2_with (first
              | (go_at_call 62; refine (gridBy_calls 88 #[.pointer (some ⟨B5, 0, none⟩), .pointer (some ⟨B6, 0, none⟩)] (shrinkP (shrinkN g i)) X2 (enters_of Try.func88 (by kernel_rfl) rfl) (fun W x y hx hy hW => shrunk1_calls (shrinkN g i) (gso (edgeP (shrinkN g i)) 256) x y hx hy _ _ W (HN5.out.below hW) (HN6.out.below hW))).mono ?_; rintro e w2 ⟨rfl, hb2⟩; have HB3 := Aside0.mk (below_then hH.out.2.2.1 hH.out.2.2.1.size hb2); have HG3 : Aside0 (w2.heap[w.heap.size]? = some (.cells (gc (shrinkN g i)) 66 (0, 0))) := Aside0.mk (blk_below HG2.out hb2); have HZ3 := Aside0.mk (GridAt.below hH.out.2.1 hb2); clear hb2)
              | ((with_reducible refine wpList_store_row rfl 66 (.tmp 2) (.tmp 14) rfl w.heap.size (gc (gso (shrinkP (shrinkN g i)) 256)) ?hx ?hy 66 (gc (shrinkN g i)) HG3.out (HI.out _) (HSZ.out _ _) (HO.out _) ?_); (case hx => rfl); (case hy => rfl)))
            go_roundw
            case rel => exact ⟨i + 1, by go_num, by omega, ⟨GridAt.setRow (g := shrinkN g i) HG3.out _⟩, ⟨setRow_keepS HZ3.out _ (by omega)⟩, ⟨below_setRow HB3.out (Nat.le_refl _) _⟩⟩
            case measure => simp [intOf]; omega
        · have HN60 := HN6
          intro K hK
          rw [if_pos (by rfl)]
          go_simp
          refine hK.out _ _ ⟨hH.out.1.alloc _, hH.out.2.1.alloc _, below_alloc hH.out.2.2.1 _, by have := hH.out.2.2.2; simp only [World.size_alloc]; omega⟩ (fun hH1 => ?_)
          clear hK K
          have HN5 := Aside0.mk (GridAt.new W1 (fun _ => false))
          replace HN6 := Aside0.mk (GridAt.alloc HN6.out (.cells (gc fun _ => false) 66))
          obtain ⟨W2, hW⟩ : ∃ W, W = W1.alloc (.cells (gc fun _ => false) 66) := ⟨_, rfl⟩
          rw [← hW] at hH1 HN5 HN6 ⊢
          obtain ⟨B5, hB5⟩ : ∃ B, B = W1.heap.size := ⟨_, rfl⟩
          have hl5 : w.heap.size + 1 < B5 := by rw [hB5]; exact hH.out.2.2.2
          have hne : B6 ≠ B5 := by have := GridAt.lt HN60.out; omega
          rw [← hB5] at HN5 ⊢
          clear hW hB5 hH
          have hH := hH1
          clear hH1
          clear HN60
          try simp only [Act.put, List.setIfInBounds_toArray, List.set_cons_zero, List.set_cons_succ]
          refine wpAnyH_ready (rs := [2]) (by kernel_rfl) (by simp) ?_
          refine AllReadyH.cons (i := 2) rfl ?_ (AllReadyH.nil)
          · intro K hK
            rw [if_pos (by rfl)]
            go_simp
            go_wp2_with (first | (go_at_call 72; refine (edge_calls _ _).mono ?_; rintro e W3 ⟨rfl, hb⟩))
            refine hK.out _ _ ⟨hH.out.1.below hb, hH.out.2.1.below hb, below_then hH.out.2.2.1 hH.out.2.2.1.size hb, Nat.lt_of_lt_of_le hH.out.2.2.2 hb.size⟩ (fun hH1 => ?_)
            clear hK K
            replace HN5 := Aside0.mk (GridAt.below HN5.out hb)
            replace HN6 := Aside0.mk (GridAt.below HN6.out hb)
            clear hb hH
            have hH := hH1
            clear hH1
            try simp only [Act.put, List.setIfInBounds_toArray, List.set_cons_zero, List.set_cons_succ]
            refine wpAnyH_ready (rs := [5]) (by kernel_rfl) (by simp) ?_
            refine AllReadyH.cons (i := 5) rfl ?_ AllReadyH.nil
            intro K hK
            rw [if_pos (by rfl)]
            have hx5 : W3.heap[B5]? = some (.cells (gc fun _ => false) 66 (0, 0)) := HN5.out
            (with_reducible refine wp_store_row 66 (.tmp 5) (.tmp 10) rfl B5 (gc (shrinkN g i)) ?hx ?hy 66 (gc fun _ => false) hx5 (HI.out _) (HSZ.out _ _) (HO.out _) ?_)
            case hx => rfl
            case hy => rfl
            clear hx5
            have hH1 : Aside0 (GridAt (W3.setRow B5 (gc (shrinkN g i))) w.heap.size (shrinkN g i) ∧ GridAt (W3.setRow B5 (gc (shrinkN g i))) (w.heap.size + 1) (fun _ => false) ∧ Below w.heap.size w (W3.setRow B5 (gc (shrinkN g i))) ∧ w.heap.size + 1 < (W3.setRow B5 (gc (shrinkN g i))).heap.size) := ⟨setRow_keepS hH.out.1 _ (by omega), setRow_keepS hH.out.2.1 _ (by omega), below_setRow hH.out.2.2.1 (by omega) _, by rw [setRow_size]; exact hH.out.2.2.2⟩
            have HN61 : Aside0 (GridAt (W3.setRow B5 (gc (shrinkN g i))) B6 (fun _ => false)) := Aside0.mk (setRow_keepS HN6.out (gc (shrinkN g i)) (show B6 ≠ B5 by omega))
            have HN51 : Aside0 (GridAt (W3.setRow B5 (gc (shrinkN g i))) B5 (shrinkN g i)) := Aside0.mk (GridAt.setRow (g := fun _ => false) HN5.out (shrinkN g i))
            refine hK.out _ _ hH1 (fun _ => ?_)
            clear hK K hH HN5 HN6
            have hH := hH1
            have HN5 := HN51
            have HN6 := HN61
            clear hH1 HN51 HN61
            obtain ⟨X1, hW⟩ : ∃ W, W = W3.setRow B5 (gc (shrinkN g i)) := ⟨_, rfl⟩
            rw [← hW] at hH HN5 HN6 ⊢
            clear hW
            try simp only [Act.put, List.setIfInBounds_toArray, List.set_cons_zero, List.set_cons_succ]
            refine wpAnyH_ready (rs := [6]) (by kernel_rfl) (by simp) ?_
            refine AllReadyH.cons (i := 6) rfl ?_ AllReadyH.nil
            intro K hK
            rw [if_pos (by rfl)]
            have hx6 : X1.heap[B6]? = some (.cells (gc fun _ => false) 66 (0, 0)) := HN6.out
            (with_reducible refine wp_store_row 66 (.tmp 6) (.tmp 12) rfl B6 (gc (gso (edgeP (shrinkN g i)) 256)) ?hx ?hy 66 (gc fun _ => false) hx6 (HI.out _) (HSZ.out _ _) (HO.out _) ?_)
            case hx => rfl
            case hy => rfl
            clear hx6
            have hH1 : Aside0 (GridAt (X1.setRow B6 (gc (gso (edgeP (shrinkN g i)) 256))) w.heap.size (shrinkN g i) ∧ GridAt (X1.setRow B6 (gc (gso (edgeP (shrinkN g i)) 256))) (w.heap.size + 1) (fun _ => false) ∧ Below w.heap.size w (X1.setRow B6 (gc (gso (edgeP (shrinkN g i)) 256))) ∧ w.heap.size + 1 < (X1.setRow B6 (gc (gso (edgeP (shrinkN g i)) 256))).heap.size) := ⟨setRow_keepS hH.out.1 _ (by omega), setRow_keepS hH.out.2.1 _ (by omega), below_setRow hH.out.2.2.1 (by omega) _, by rw [setRow_size]; exact hH.out.2.2.2⟩
            have HN51 : Aside0 (GridAt (X1.setRow B6 (gc (gso (edgeP (shrinkN g i)) 256))) B5 (shrinkN g i)) := Aside0.mk (setRow_keepS HN5.out (gc (gso (edgeP (shrinkN g i)) 256)) (show B5 ≠ B6 by omega))
            have HN61 : Aside0 (GridAt (X1.setRow B6 (gc (gso (edgeP (shrinkN g i)) 256))) B6 (gso (edgeP (shrinkN g i)) 256)) := Aside0.mk (GridAt.setRow (g := fun _ => false) HN6.out (gso (edgeP (shrinkN g i)) 256))
            refine hK.out _ _ hH1 (fun _ => ?_)
            clear hK K hH HN5 HN6
            have hH := hH1
            have HN5 := HN51
            have HN6 := HN61
            clear hH1 HN51 HN61
            obtain ⟨X2, hW⟩ : ∃ W, W = X1.setRow B6 (gc (gso (edgeP (shrinkN g i)) 256)) := ⟨_, rfl⟩
            rw [← hW] at hH HN5 HN6 ⊢
            clear hW
            try simp only [Act.put, List.setIfInBounds_toArray, List.set_cons_zero, List.set_cons_succ]
            refine wpAnyH_done (by kernel_rfl) ?_ _
            have HG2 : Aside0 (X2.heap[w.heap.size]? = some (.cells (gc (shrinkN g i)) 66 (0, 0))) := Aside0.mk hH.out.1
            go_wp2_with (first
              | (go_at_call 62; refine (gridBy_calls 88 #[.pointer (some ⟨B5, 0, none⟩), .pointer (some ⟨B6, 0, none⟩)] (shrinkP (shrinkN g i)) X2 (enters_of Try.func88 (by kernel_rfl) rfl) (fun W x y hx hy hW => shrunk1_calls (shrinkN g i) (gso (edgeP (shrinkN g i)) 256) x y hx hy _ _ W (HN5.out.below hW) (HN6.out.below hW))).mono ?_; rintro e w2 ⟨rfl, hb2⟩; have HB3 := Aside0.mk (below_then hH.out.2.2.1 hH.out.2.2.1.size hb2); have HG3 : Aside0 (w2.heap[w.heap.size]? = some (.cells (gc (shrinkN g i)) 66 (0, 0))) := Aside0.mk (blk_below HG2.out hb2); have HZ3 := Aside0.mk (GridAt.below hH.out.2.1 hb2); clear hb2)
              | ((with_reducible refine wpList_store_row rfl 66 (.tmp 2) (.tmp 14) rfl w.heap.size (gc (gso (shrinkP (shrinkN g i)) 256)) ?hx ?hy 66 (gc (shrinkN g i)) HG3.out (HI.out _) (HSZ.out _ _) (HO.out _) ?_); (case hx => rfl); (case hy => rfl)))
            go_roundw
            case rel => exact ⟨i + 1, by go_num, by omega, ⟨GridAt.setRow (g := shrinkN g i) HG3.out _⟩, ⟨setRow_keepS HZ3.out _ (by omega)⟩, ⟨below_setRow HB3.out (Nat.le_refl _) _⟩⟩
            case measure => simp [intOf]; omega
    · have d1 : decide ((i : Int) < (n : Int)) = false := by simpa using hlt
      have hin : i = n := by omega
      subst hin
      have hg' : wo.heap[w.heap.size]? = some (.cells (gc (shrinkN g i)) 66 (0, 0)) := HG.out
      have hz' : wo.heap[w.heap.size + 1]? = some (.cells (gc fun _ => false) 66 (0, 0)) := HZ.out
      go_wp2_with (first
        | ((with_reducible refine gate_dst (N := 16) rfl ?_); refine wpList_load_row rfl 66 (.tmp 2) rfl w.heap.size rfl 66 (gc (shrinkN g i)) (0, 0) (.array 16 64) hg' underlying66 rfl (HI.out _) ?_)
        | ((with_reducible refine wpList_store_row rfl 66 (.tmp 4) (.tmp 16) rfl (w.heap.size + 1) (gc (shrinkN g i)) ?hx ?hy 66 (gc fun _ => false) hz' (HI.out _) (HSZ.out _ _) (HO.out _) ?_); (case hx => rfl); (case hy => rfl)))
      refine bodyPost_ret (results_cell_row rfl _ _ (w.heap.size + 1) 66 (gc (shrinkN g i)) (0, 0) (.array 16 64) rfl (GridAt.setRow (g := fun _ => false) HZ.out (shrinkN g i)) underlying66 rfl (HI.out _)) rfl ?_
      exact ⟨rfl, below_setRow HB.out (Nat.le_succ _) _⟩
end Go.Proofs.Ytfgeickfheogoaa.Q

/- Neighbours of a grid's pixels, by their numbers; a loop that fills a grid. -/
namespace Go.Proofs.Ytfgeickfheogoaa.Pure
open Go.RowKit Go.Proofs.Ytfgeickfheogoaa.Q Go.Proofs.YtfgeickfheogoaaW.PrintWords Go.Proofs.YtfgeickfheogoaaW.PrintLast Go.Proofs.YtfgeickfheogoaaW.PrintMore
set_option linter.unusedVariables false
set_option linter.unusedSimpArgs false

theorem gso_at (so : Nat → Nat → Bool) (p : Nat) (h : p < 256) : gso so 256 p = so (p % 16) (p / 16) := by
  unfold gso; rw [decide_eq_true h, Bool.true_and]
def rdT (g : Nat → Bool) (i : Int) : Bool := rdOf false (tab g) i
theorem rdT_nat (g : Nat → Bool) (i : Nat) (h : i < 256) : rdT g (i : Int) = g i := tab_get g i h
theorem hasP_no (g : Nat → Bool) (x y : Int) (h : x < 0 ∨ 16 ≤ x ∨ y < 0 ∨ 16 ≤ y) : hasP g x y = false := by
  rw [← Bool.not_eq_true, hasP_iff]; omega
theorem hasP_at (g : Nat → Bool) (x y : Int) (r : Nat) (hr : r < 256) (hx : x = ((r % 16 : Nat) : Int)) (hy : y = ((r / 16 : Nat) : Int)) : hasP g x y = g r := by
  rw [hx, hy, hasP_nat g r hr]
theorem has_left (g : Nat → Bool) (p : Nat) (hp : p < 256) : hasP g (((p % 16 : Nat) : Int) - 1) ((p / 16 : Nat) : Int) = (decide (((p % 16 : Nat) : Int) > 0) && rdT g ((p : Int) - 1)) := by
  by_cases c : ((p % 16 : Nat) : Int) > 0
  · rw [decide_eq_true c, Bool.true_and, hasP_at g _ _ (p - 1) (by omega) (by omega) (by omega), show (p : Int) - 1 = ((p - 1 : Nat) : Int) by omega, rdT_nat g _ (by omega)]
  · rw [decide_eq_false c, Bool.false_and, hasP_no g _ _ (by omega)]
theorem has_right (g : Nat → Bool) (p : Nat) (hp : p < 256) : hasP g (((p % 16 : Nat) : Int) + 1) ((p / 16 : Nat) : Int) = (decide (((p % 16 : Nat) : Int) < 15) && rdT g ((p : Int) + 1)) := by
  by_cases c : ((p % 16 : Nat) : Int) < 15
  · rw [decide_eq_true c, Bool.true_and, hasP_at g _ _ (p + 1) (by omega) (by omega) (by omega), show (p : Int) + 1 = ((p + 1 : Nat) : Int) by omega, rdT_nat g _ (by omega)]
  · rw [decide_eq_false c, Bool.false_and, hasP_no g _ _ (by omega)]
theorem has_up (g : Nat → Bool) (p : Nat) (hp : p < 256) : hasP g ((p % 16 : Nat) : Int) (((p / 16 : Nat) : Int) - 1) = (decide (((p / 16 : Nat) : Int) > 0) && rdT g ((p : Int) - 16)) := by
  by_cases c : ((p / 16 : Nat) : Int) > 0
  · rw [decide_eq_true c, Bool.true_and, hasP_at g _ _ (p - 16) (by omega) (by omega) (by omega), show (p : Int) - 16 = ((p - 16 : Nat) : Int) by omega, rdT_nat g _ (by omega)]
  · rw [decide_eq_false c, Bool.false_and, hasP_no g _ _ (by omega)]
theorem has_down (g : Nat → Bool) (p : Nat) (hp : p < 256) : hasP g ((p % 16 : Nat) : Int) (((p / 16 : Nat) : Int) + 1) = (decide (((p / 16 : Nat) : Int) < 15) && rdT g ((p : Int) + 16)) := by
  by_cases c : ((p / 16 : Nat) : Int) < 15
  · rw [decide_eq_true c, Bool.true_and, hasP_at g _ _ (p + 16) (by omega) (by omega) (by omega), show (p : Int) + 16 = ((p + 16 : Nat) : Int) by omega, rdT_nat g _ (by omega)]
  · rw [decide_eq_false c, Bool.false_and, hasP_no g _ _ (by omega)]
/-- A loop that writes all cells of a grid, one after the other. -/
theorem fill_ev {ρ : Type} (f : Nat → Bool) (init : Nat → Bool) (L : Nat → List Bool → Nat → Option ρ) (r : ρ)
    (step : ∀ k s p, p < 256 → s = tab (fun q => if q < p then f q else init q) → L (k + 1) s p = L k (s.set p (f p)) (p + 1))
    (last : Ev (fun k => L k (tab f) 256) r) : Ev (fun k => L k (tab init) 0) r := by
  have key := ev_up 256 (fun k p s => L k s p) (fun p s => s = tab (fun q => if q < p then f q else init q)) (fun _ _ => r)
    (by
      intro p s hp hs
      right
      refine ⟨s.set p (f p), fun k => step k s p hp hs, ?_, rfl⟩
      rw [hs, tab_set]
      apply tab_congr
      intro q _
      by_cases e : q = p
      · subst e; rw [if_pos rfl, if_pos (by omega)]
      · rw [if_neg e]
        by_cases h1 : q < p
        · rw [if_pos h1, if_pos (by omega)]
        · rw [if_neg h1, if_neg (by omega)])
    (by
      intro s hs
      have : s = tab f := by rw [hs]; exact tab_congr (fun q hq => by rw [if_pos hq])
      rw [this]; exact last)
    256 0 (tab init) (by omega) (tab_congr (fun q _ => by rw [if_neg (by omega)]))
  exact key
theorem tmod16 (p : Nat) : Int.tmod (p : Int) 16 = ((p % 16 : Nat) : Int) := by rw [tmod_nn _ _ (by omega)]; omega
theorem tdiv16 (p : Nat) (h : p < 256) : wrap64 (Int.tdiv (p : Int) 16) = ((p / 16 : Nat) : Int) := by rw [tdiv_nn _ _ (by omega), w64 (by omega) (by omega)]; omega
def innerT (g : Nat → Bool) (p : Nat) : Bool :=
  decide (((p % 16 : Nat) : Int) > 0) && (decide (((p % 16 : Nat) : Int) < 15) && (decide (((p / 16 : Nat) : Int) > 0) && (decide (((p / 16 : Nat) : Int) < 15) && (rdT g ((p : Int) - 1) && (rdT g ((p : Int) + 1) && (rdT g ((p : Int) - 16) && rdT g ((p : Int) + 16)))))))
theorem edge_is (g : Nat → Bool) (p : Nat) (hp : p < 256) : (g p && !(innerT g p)) = gso (edgeP g) 256 p := by
  rw [gso_at _ _ hp]
  unfold edgeP nbAll innerT
  rw [has_left g p hp, has_right g p hp, has_up g p hp, has_down g p hp, show p / 16 * 16 + p % 16 = p by omega]
  generalize decide (((p % 16 : Nat) : Int) > 0) = a1
  generalize decide (((p % 16 : Nat) : Int) < 15) = a2
  generalize decide (((p / 16 : Nat) : Int) > 0) = a3
  generalize decide (((p / 16 : Nat) : Int) < 15) = a4
  generalize rdT g ((p : Int) - 1) = a5
  generalize rdT g ((p : Int) + 1) = a6
  generalize rdT g ((p : Int) - 16) = a7
  generalize rdT g ((p : Int) + 16) = a8
  congr 2
  ac_rfl
def growT (g : Nat → Bool) (p : Nat) : Bool :=
  g p || ((decide (((p % 16 : Nat) : Int) > 0) && rdT g ((p : Int) - 1)) || ((decide (((p % 16 : Nat) : Int) < 15) && rdT g ((p : Int) + 1)) || ((decide (((p / 16 : Nat) : Int) > 0) && rdT g ((p : Int) - 16)) || (decide (((p / 16 : Nat) : Int) < 15) && rdT g ((p : Int) + 16)))))
theorem grow_is (g : Nat → Bool) (p : Nat) (hp : p < 256) : growT g p = gso (growP g) 256 p := by
  rw [gso_at _ _ hp]
  unfold growT growP nbAny
  rw [has_left g p hp, has_right g p hp, has_up g p hp, has_down g p hp, show p / 16 * 16 + p % 16 = p by omega]
  congr 1
  ac_rfl
end Go.Proofs.Ytfgeickfheogoaa.Pure

namespace Go.Proofs.Ytfgeickfheogoaa.Q
open Go.RowKit Go.Proofs.YtfgeickfheogoaaW.PrintWords Go.Proofs.YtfgeickfheogoaaW.PrintLast Go.Proofs.YtfgeickfheogoaaW.PrintMore
attribute [local go_sem] max2_int min2_int max_two min_two max_three min_three max_four min_four
set_option linter.unusedVariables false
set_option linter.unusedSimpArgs false
/-! ### impl_Box_has: function 64 -/
def impl_Box_has.f (a0_0 : Int) (a0_1 : Int) (a0_2 : Int) (a0_3 : Int) (a1 : Int) (a2 : Int) : Option (Bool) := if a1 ≥ a0_0 then (if a1 < (wrap64 (a0_0 + a0_2)) then (if a2 ≥ a0_1 then (some (decide (a2 < (wrap64 (a0_1 + a0_3))))) else (some false)) else (some false)) else (some false)
set_option maxHeartbeats 8000000 in
set_option maxRecDepth 100000 in
theorem impl_Box_has.calls (a0_0 : Int) (a0_1 : Int) (a0_2 : Int) (a0_3 : Int) (a1 : Int) (a2 : Int) (r : Bool) (w : World) (h : impl_Box_has.f a0_0 a0_1 a0_2 a0_3 a1 a2 = some r) :
    Calls Try.prog 64 #[.agg #[.int .i64 a0_0, .int .i64 a0_1, .int .i64 a0_2, .int .i64 a0_3], .int .i64 a1, .int .i64 a2] w fun e w' => e = .returned (.bool r) ∧ Below w.heap.size w w' := by
  have hu36 := Try.underlying36
  have HB := Aside0.mk (Below.refl w.heap.size w)
  have H : (if a1 ≥ a0_0 then (if a1 < (wrap64 (a0_0 + a0_2)) then (if a2 ≥ a0_1 then (some (decide (a2 < (wrap64 (a0_1 + a0_3))))) else (some false)) else (some false)) else (some false)) = some r := h
  clear h
  by_cases c4 : a1 ≥ a0_0
  · rw [if_pos c4] at H
    have c4b0 : decide (a0_0 ≤ a1) = true := decide_eq_true c4
    clear c4
    by_cases c5 : a1 < (wrap64 (a0_0 + a0_2))
    · rw [if_pos c5] at H
      have c5b0 : decide (a1 < (wrap64 (a0_0 + a0_2))) = true := decide_eq_true c5
      clear c5
      by_cases c6 : a2 ≥ a0_1
      · rw [if_pos c6] at H
        have c6b0 : decide (a0_1 ≤ a2) = true := decide_eq_true c6
        clear c6
        obtain rfl := Option.some.inj H
        go_enter Try.func64, Try.ntmps64
        go_wp2_with (first | ((with_reducible refine gate_dst (N := 3) rfl ?_); refine box_event ?hg (N := 3) ?hd (cs := #[.int .i64 a0_0, .int .i64 a0_1, .int .i64 a0_2, .int .i64 a0_3]) (t := 36) ?hr ?_; (case hd => rfl); (case hg => rfl); (case hr => first | (go_simp; done) | (go_simp; rfl)); intro gb65001 hg w7 hbox hb; have n0_ := Aside0.mk (below_step (by repeat (first | (with_reducible first | exact HB.out | apply below_alloc | apply pw_below_drewN | apply below_drew1) | exact HB.out)) hb); have n1_ := Aside0.mk (hbox); have n2_ := Aside0.mk ((by rw [hg]; exact (below_size (by repeat (first | (with_reducible first | exact HB.out | apply below_alloc | apply pw_below_drewN | apply below_drew1) | exact HB.out))) : w.heap.size ≤ gb65001)); have n3_ := Aside0.mk ((by rw [hg]; exact (below_size (by repeat (first | (with_reducible first | exact HB.out | apply below_alloc | apply pw_below_drewN | apply below_drew1) | exact HB.out))) : w.heap.size ≤ gb65001)); clear HB; have HB := n0_; have BK65001 := n1_; have GW65001 := n2_; have GE65001 := n3_; clear n0_ n1_ n2_ n3_; clear hb hbox hg; have hcz8_0 : w7.cell? ⟨gb65001, 0, none⟩ = some (.int .i64 a0_0) := (blk_cell BK65001.out 0).trans rfl; have hcz8_1 : w7.cell? ⟨gb65001, 1, none⟩ = some (.int .i64 a0_1) := (blk_cell BK65001.out 1).trans rfl; have hcz8_2 : w7.cell? ⟨gb65001, 2, none⟩ = some (.int .i64 a0_2) := (blk_cell BK65001.out 2).trans rfl; have hcz8_3 : w7.cell? ⟨gb65001, 3, none⟩ = some (.int .i64 a0_3) := (blk_cell BK65001.out 3).trans rfl; have hfz8_0 := blk_frozen BK65001.out 0; have hfz8_1 := blk_frozen BK65001.out 1; have hfz8_2 := blk_frozen BK65001.out 2; have hfz8_3 := blk_frozen BK65001.out 3))
        go_ret
        exact ⟨by first | rfl | (simp [errW_none, errW_some] <;> rfl) | (simp [*, errW_none, errW_some] <;> rfl), by repeat (first | (with_reducible first | exact HB.out | apply below_alloc | apply pw_below_drewN | apply below_drew1 | refine below_set ?_ GE65001.out) | exact HB.out)⟩
      · rw [if_neg c6] at H
        have c6b0 : decide (a0_1 ≤ a2) = false := decide_eq_false c6
        clear c6
        obtain rfl := Option.some.inj H
        go_enter Try.func64, Try.ntmps64
        go_wp2_with (first | ((with_reducible refine gate_dst (N := 3) rfl ?_); refine box_event ?hg (N := 3) ?hd (cs := #[.int .i64 a0_0, .int .i64 a0_1, .int .i64 a0_2, .int .i64 a0_3]) (t := 36) ?hr ?_; (case hd => rfl); (case hg => rfl); (case hr => first | (go_simp; done) | (go_simp; rfl)); intro gb65001 hg w9 hbox hb; have n0_ := Aside0.mk (below_step (by repeat (first | (with_reducible first | exact HB.out | apply below_alloc | apply pw_below_drewN | apply below_drew1) | exact HB.out)) hb); have n1_ := Aside0.mk (hbox); have n2_ := Aside0.mk ((by rw [hg]; exact (below_size (by repeat (first | (with_reducible first | exact HB.out | apply below_alloc | apply pw_below_drewN | apply below_drew1) | exact HB.out))) : w.heap.size ≤ gb65001)); have n3_ := Aside0.mk ((by rw [hg]; exact (below_size (by repeat (first | (with_reducible first | exact HB.out | apply below_alloc | apply pw_below_drewN | apply below_drew1) | exact HB.out))) : w.heap.size ≤ gb65001)); clear HB; have HB := n0_; have BK65001 := n1_; have GW65001 := n2_; have GE65001 := n3_; clear n0_ n1_ n2_ n3_; clear hb hbox hg; have hcz10_0 : w9.cell? ⟨gb65001, 0, none⟩ = some (.int .i64 a0_0) := (blk_cell BK65001.out 0).trans rfl; have hcz10_1 : w9.cell? ⟨gb65001, 1, none⟩ = some (.int .i64 a0_1) := (blk_cell BK65001.out 1).trans rfl; have hcz10_2 : w9.cell? ⟨gb65001, 2, none⟩ = some (.int .i64 a0_2) := (blk_cell BK65001.out 2).trans rfl; have hcz10_3 : w9.cell? ⟨gb65001, 3, none⟩ = some (.int .i64 a0_3) := (blk_cell BK65001.out 3).trans rfl; have hfz10_0 := blk_frozen BK65001.out 0; have hfz10_1 := blk_frozen BK65001.out 1; have hfz10_2 := blk_frozen BK65001.out 2; have hfz10_3 := blk_frozen BK65001.out 3))
        go_ret
        exact ⟨by first | rfl | (simp [errW_none, errW_some] <;> rfl) | (simp [*, errW_none, errW_some] <;> rfl), by repeat (first | (with_reducible first | exact HB.out | apply below_alloc | apply pw_below_drewN | apply below_drew1 | refine below_set ?_ GE65001.out) | exact HB.out)⟩
    · rw [if_neg c5] at H
      have c5b0 : decide (a1 < (wrap64 (a0_0 + a0_2))) = false := decide_eq_false c5
      clear c5
      obtain rfl := Option.some.inj H
      go_enter Try.func64, Try.ntmps64
      go_wp2_with (first | ((with_reducible refine gate_dst (N := 3) rfl ?_); refine box_event ?hg (N := 3) ?hd (cs := #[.int .i64 a0_0, .int .i64 a0_1, .int .i64 a0_2, .int .i64 a0_3]) (t := 36) ?hr ?_; (case hd => rfl); (case hg => rfl); (case hr => first | (go_simp; done) | (go_simp; rfl)); intro gb65001 hg w11 hbox hb; have n0_ := Aside0.mk (below_step (by repeat (first | (with_reducible first | exact HB.out | apply below_alloc | apply pw_below_drewN | apply below_drew1) | exact HB.out)) hb); have n1_ := Aside0.mk (hbox); have n2_ := Aside0.mk ((by rw [hg]; exact (below_size (by repeat (first | (with_reducible first | exact HB.out | apply below_alloc | apply pw_below_drewN | apply below_drew1) | exact HB.out))) : w.heap.size ≤ gb65001)); have n3_ := Aside0.mk ((by rw [hg]; exact (below_size (by repeat (first | (with_reducible first | exact HB.out | apply below_alloc | apply pw_below_drewN | apply below_drew1) | exact HB.out))) : w.heap.size ≤ gb65001)); clear HB; have HB := n0_; have BK65001 := n1_; have GW65001 := n2_; have GE65001 := n3_; clear n0_ n1_ n2_ n3_; clear hb hbox hg; have hcz12_0 : w11.cell? ⟨gb65001, 0, none⟩ = some (.int .i64 a0_0) := (blk_cell BK65001.out 0).trans rfl; have hcz12_1 : w11.cell? ⟨gb65001, 1, none⟩ = some (.int .i64 a0_1) := (blk_cell BK65001.out 1).trans rfl; have hcz12_2 : w11.cell? ⟨gb65001, 2, none⟩ = some (.int .i64 a0_2) := (blk_cell BK65001.out 2).trans rfl; have hcz12_3 : w11.cell? ⟨gb65001, 3, none⟩ = some (.int .i64 a0_3) := (blk_cell BK65001.out 3).trans rfl; have hfz12_0 := blk_frozen BK65001.out 0; have hfz12_1 := blk_frozen BK65001.out 1; have hfz12_2 := blk_frozen BK65001.out 2; have hfz12_3 := blk_frozen BK65001.out 3))
      go_ret
      exact ⟨by first | rfl | (simp [errW_none, errW_some] <;> rfl) | (simp [*, errW_none, errW_some] <;> rfl), by repeat (first | (with_reducible first | exact HB.out | apply below_alloc | apply pw_below_drewN | apply below_drew1 | refine below_set ?_ GE65001.out) | exact HB.out)⟩
  · rw [if_neg c4] at H
    have c4b0 : decide (a0_0 ≤ a1) = false := decide_eq_false c4
    clear c4
    obtain rfl := Option.some.inj H
    go_enter Try.func64, Try.ntmps64
    go_wp2_with (first | ((with_reducible refine gate_dst (N := 3) rfl ?_); refine box_event ?hg (N := 3) ?hd (cs := #[.int .i64 a0_0, .int .i64 a0_1, .int .i64 a0_2, .int .i64 a0_3]) (t := 36) ?hr ?_; (case hd => rfl); (case hg => rfl); (case hr => first | (go_simp; done) | (go_simp; rfl)); intro gb65001 hg w13 hbox hb; have n0_ := Aside0.mk (below_step (by repeat (first | (with_reducible first | exact HB.out | apply below_alloc | apply pw_below_drewN | apply below_drew1) | exact HB.out)) hb); have n1_ := Aside0.mk (hbox); have n2_ := Aside0.mk ((by rw [hg]; exact (below_size (by repeat (first | (with_reducible first | exact HB.out | apply below_alloc | apply pw_below_drewN | apply below_drew1) | exact HB.out))) : w.heap.size ≤ gb65001)); have n3_ := Aside0.mk ((by rw [hg]; exact (below_size (by repeat (first | (with_reducible first | exact HB.out | apply below_alloc | apply pw_below_drewN | apply below_drew1) | exact HB.out))) : w.heap.size ≤ gb65001)); clear HB; have HB := n0_; have BK65001 := n1_; have GW65001 := n2_; have GE65001 := n3_; clear n0_ n1_ n2_ n3_; clear hb hbox hg; have hcz14_0 : w13.cell? ⟨gb65001, 0, none⟩ = some (.int .i64 a0_0) := (blk_cell BK65001.out 0).trans rfl; have hcz14_1 : w13.cell? ⟨gb65001, 1, none⟩ = some (.int .i64 a0_1) := (blk_cell BK65001.out 1).trans rfl; have hcz14_2 : w13.cell? ⟨gb65001, 2, none⟩ = some (.int .i64 a0_2) := (blk_cell BK65001.out 2).trans rfl; have hcz14_3 : w13.cell? ⟨gb65001, 3, none⟩ = some (.int .i64 a0_3) := (blk_cell BK65001.out 3).trans rfl; have hfz14_0 := blk_frozen BK65001.out 0; have hfz14_1 := blk_frozen BK65001.out 1; have hfz14_2 := blk_frozen BK65001.out 2; have hfz14_3 := blk_frozen BK65001.out 3))
    go_ret
    exact ⟨by first | rfl | (simp [errW_none, errW_some] <;> rfl) | (simp [*, errW_none, errW_some] <;> rfl), by repeat (first | (with_reducible first | exact HB.out | apply below_alloc | apply pw_below_drewN | apply below_drew1 | refine below_set ?_ GE65001.out) | exact HB.out)⟩

end Go.Proofs.Ytfgeickfheogoaa.Q

/- impl.BoxRegion: the runs of the grid of a box's pixels. -/
namespace Go.Proofs.Ytfgeickfheogoaa.Q
open Go.RowKit Go.Proofs.YtfgeickfheogoaaW.PrintWords Go.Proofs.YtfgeickfheogoaaW.PrintLast Go.Proofs.YtfgeickfheogoaaW.PrintMore
attribute [local go_sem] max2_int min2_int max_two min_two max_three min_three max_four min_four
set_option linter.unusedVariables false
set_option linter.unusedSimpArgs false
open Go.Proofs.Ytfgeickfheogoaa.Pure

/-- whether a box lies on the grid -/
def boxOk (b0 b1 b2 b3 : Int) : Bool := decide (0 ≤ b0 ∧ b0 < 16 ∧ 0 ≤ b1 ∧ b1 < 16 ∧ 1 ≤ b2 ∧ b2 ≤ 16 - b0 ∧ 1 ≤ b3 ∧ b3 ≤ 16 - b1)
/-- whether a pixel is in a box -/
def inBox (b0 b1 b2 b3 : Int) (x y : Nat) : Bool := decide (b0 ≤ (x : Int)) && decide ((x : Int) < b0 + b2) && decide (b1 ≤ (y : Int)) && decide ((y : Int) < b1 + b3)
theorem has_eq (b0 b1 b2 b3 : Int) (h0 : 0 ≤ b0 ∧ b0 < 16 ∧ 0 ≤ b1 ∧ b1 < 16 ∧ 1 ≤ b2 ∧ b2 ≤ 16 - b0 ∧ 1 ≤ b3 ∧ b3 ≤ 16 - b1) (x y : Nat) : impl_Box_has.f b0 b1 b2 b3 (x : Int) (y : Int) = some (inBox b0 b1 b2 b3 x y) := by
  unfold impl_Box_has.f inBox
  rw [w64 (x := b0 + b2) (by omega) (by omega), w64 (x := b1 + b3) (by omega) (by omega)]
  by_cases c1 : b0 ≤ (x : Int)
  · rw [if_pos c1]
    by_cases c2 : (x : Int) < b0 + b2
    · rw [if_pos c2]
      by_cases c3 : b1 ≤ (y : Int)
      · rw [if_pos c3, decide_eq_true c1, decide_eq_true c2, decide_eq_true c3]; simp
      · rw [if_neg c3, decide_eq_false c3]; simp
    · rw [if_neg c2, decide_eq_false c2]; simp
  · rw [if_neg c1, decide_eq_false c1]; simp
def impl_BoxRegion.f (b0 b1 b2 b3 : Int) : Option (List S57 × Bool) := some (if boxOk b0 b1 b2 b3 = true then (runsL (gso (inBox b0 b1 b2 b3) 256), true) else ([], false))

set_option maxHeartbeats 4000000 in
set_option maxRecDepth 100000 in
theorem boxHas_calls (b0 b1 b2 b3 : Int) (h0 : 0 ≤ b0 ∧ b0 < 16 ∧ 0 ≤ b1 ∧ b1 < 16 ∧ 1 ≤ b2 ∧ b2 ≤ 16 - b0 ∧ 1 ≤ b3 ∧ b3 ≤ 16 - b1) (x y : Nat) (B : Nat) (w : World)
    (hB : w.heap[B]? = some (.cells #[.int .i64 b0, .int .i64 b1, .int .i64 b2, .int .i64 b3] 36 (0, 0))) :
    Calls Try.prog 63 #[.int .i64 (x : Int), .int .i64 (y : Int), .pointer (some ⟨B, 0, none⟩)] w fun e w' => e = .returned (.bool (inBox b0 b1 b2 b3 x y)) ∧ Below w.heap.size w w' := by
  have hu := Try.underlying36
  have HC := Aside0.mk (impl_Box_has.calls b0 b1 b2 b3 (x : Int) (y : Int) _ w (has_eq b0 b1 b2 b3 h0 x y))
  have c0 : w.cell? ⟨B, 0, none⟩ = some (.int .i64 b0) := (blk_cell hB 0).trans rfl
  have c1 : w.cell? ⟨B, 1, none⟩ = some (.int .i64 b1) := (blk_cell hB 1).trans rfl
  have c2 : w.cell? ⟨B, 2, none⟩ = some (.int .i64 b2) := (blk_cell hB 2).trans rfl
  have c3 : w.cell? ⟨B, 3, none⟩ = some (.int .i64 b3) := (blk_cell hB 3).trans rfl
  clear h0
  go_enter Try.func63, Try.ntmps63
  go_wp2_with (first | (go_at_call 64; refine HC.out.mono ?_; rintro e w1 ⟨rfl, hb1⟩; have HB1 := Aside0.mk hb1; clear hb1))
  go_ret
  exact ⟨rfl, HB1.out⟩
set_option maxHeartbeats 4000000 in
set_option maxRecDepth 100000 in
theorem impl_BoxRegion.calls (b0 b1 b2 b3 : Int) (r1 : List S57) (r2 : Bool) (w : World) (h : impl_BoxRegion.f b0 b1 b2 b3 = some (r1, r2)) :
    Calls Try.prog 28 #[.agg #[.int .i64 b0, .int .i64 b1, .int .i64 b2, .int .i64 b3]] w fun e w' => ∃ v0_ : Value, e = .returned (.tuple #[v0_, .bool r2]) ∧ Kd.R k57 57 w' w.heap.size (fun _ => True) v0_ r1 ∧ Below w.heap.size w w' := by
  have h' := Option.some.inj h
  clear h
  have hu := Try.underlying36
  have hB := Aside0.mk (below_alloc (Below.refl w.heap.size w) (.cells #[.int .i64 b0, .int .i64 b1, .int .i64 b2, .int .i64 b3] 36))
  by_cases ho : boxOk b0 b1 b2 b3 = true
  · rw [if_pos ho] at h'
    obtain ⟨rfl, rfl⟩ := Prod.mk.inj h'
    clear h'
    have h0 : 0 ≤ b0 ∧ b0 < 16 ∧ 0 ≤ b1 ∧ b1 < 16 ∧ 1 ≤ b2 ∧ b2 ≤ 16 - b0 ∧ 1 ≤ b3 ∧ b3 ≤ 16 - b1 := by simpa [boxOk] using ho
    clear ho
    have d1 : decide (b0 < 0) = false := by simp; omega
    have d2 : decide (16 ≤ b0) = false := by simp; omega
    have d3 : decide (b1 < 0) = false := by simp; omega
    have d4 : decide (16 ≤ b1) = false := by simp; omega
    have d5 : decide (b2 < 1) = false := by simp; omega
    have d6 : decide (wrap64 (16 - b0) < b2) = false := by rw [w64 (x := 16 - b0) (by omega) (by omega)]; simp; omega
    have d7 : decide (b3 < 1) = false := by simp; omega
    have d8 : decide (wrap64 (16 - b1) < b3) = false := by rw [w64 (x := 16 - b1) (by omega) (by omega)]; simp; omega
    have hblk := Aside0.mk (blk_new w (.cells #[.int .i64 b0, .int .i64 b1, .int .i64 b2, .int .i64 b3] 36))
    have HG := Aside0.mk (fun W' => gridBy_calls 63 #[.pointer (some ⟨w.heap.size, 0, none⟩)] (inBox b0 b1 b2 b3) W' (enters_of Try.func63 (by kernel_rfl) rfl))
    go_enter Try.func28, Try.ntmps28
    go_wp2_with (first
      | (go_at_call 62; refine (HG.out _ (fun W x y _ _ hW => boxHas_calls b0 b1 b2 b3 h0 x y w.heap.size W (blk_below hblk.out hW))).mono ?_; rintro e w2 ⟨rfl, hb2⟩; have HB2 := Aside0.mk (below_then hB.out hB.out.size hb2); clear hb2)
      | (go_at_call 65; refine (runs_calls _ _).mono ?_; rintro e w3 ⟨v3, rfl, hr3, hb3⟩; have HR3 := Aside0.mk (Kd.R_lower hr3 HB2.out.size); have HB3 := Aside0.mk (below_then HB2.out HB2.out.size hb3); clear hb3 hr3))
    go_ret2
    exact ⟨v3, rfl, HR3.out, HB3.out⟩
  · rw [if_neg ho] at h'
    obtain ⟨rfl, rfl⟩ := Prod.mk.inj h'
    clear h'
    have h0 : b0 < 0 ∨ (¬ b0 < 0 ∧ 16 ≤ b0) ∨ (0 ≤ b0 ∧ b0 < 16 ∧ b1 < 0) ∨ (0 ≤ b0 ∧ b0 < 16 ∧ ¬ b1 < 0 ∧ 16 ≤ b1) ∨ (0 ≤ b0 ∧ b0 < 16 ∧ 0 ≤ b1 ∧ b1 < 16 ∧ b2 < 1) ∨ (0 ≤ b0 ∧ b0 < 16 ∧ 0 ≤ b1 ∧ b1 < 16 ∧ ¬ b2 < 1 ∧ 16 - b0 < b2) ∨ (0 ≤ b0 ∧ b0 < 16 ∧ 0 ≤ b1 ∧ b1 < 16 ∧ 1 ≤ b2 ∧ b2 ≤ 16 - b0 ∧ b3 < 1) ∨ (0 ≤ b0 ∧ b0 < 16 ∧ 0 ≤ b1 ∧ b1 < 16 ∧ 1 ≤ b2 ∧ b2 ≤ 16 - b0 ∧ ¬ b3 < 1 ∧ 16 - b1 < b3) := by
      have : ¬ (0 ≤ b0 ∧ b0 < 16 ∧ 0 ≤ b1 ∧ b1 < 16 ∧ 1 ≤ b2 ∧ b2 ≤ 16 - b0 ∧ 1 ≤ b3 ∧ b3 ≤ 16 - b1) := by simpa [boxOk] using ho
      omega
    clear ho
    rcases h0 with h0 | h0 | h0 | h0 | h0 | h0 | h0 | h0
    · have d1 : decide (b0 < 0) = true := by simp; omega
      clear h0
      go_enter Try.func28, Try.ntmps28
      go_wp2
      go_ret2
      exact ⟨_, rfl, Kd.R_nil _ _ _ _ _, hB.out⟩
    · have d1 : decide (b0 < 0) = false := by simp; omega
      have d2 : decide (16 ≤ b0) = true := by simp; omega
      clear h0
      go_enter Try.func28, Try.ntmps28
      go_wp2
      go_ret2
      exact ⟨_, rfl, Kd.R_nil _ _ _ _ _, hB.out⟩
    · have d1 : decide (b0 < 0) = false := by simp; omega
      have d2 : decide (16 ≤ b0) = false := by simp; omega
      have d3 : decide (b1 < 0) = true := by simp; omega
      clear h0
      go_enter Try.func28, Try.ntmps28
      go_wp2
      go_ret2
      exact ⟨_, rfl, Kd.R_nil _ _ _ _ _, hB.out⟩
    · have d1 : decide (b0 < 0) = false := by simp; omega
      have d2 : decide (16 ≤ b0) = false := by simp; omega
      have d3 : decide (b1 < 0) = false := by simp; omega
      have d4 : decide (16 ≤ b1) = true := by simp; omega
      clear h0
      go_enter Try.func28, Try.ntmps28
      go_wp2
      go_ret2
      exact ⟨_, rfl, Kd.R_nil _ _ _ _ _, hB.out⟩
    · have d1 : decide (b0 < 0) = false := by simp; omega
      have d2 : decide (16 ≤ b0) = false := by simp; omega
      have d3 : decide (b1 < 0) = false := by simp; omega
      have d4 : decide (16 ≤ b1) = false := by simp; omega
      have d5 : decide (b2 < 1) = true := by simp; omega
      clear h0
      go_enter Try.func28, Try.ntmps28
      go_wp2
      go_ret2
      exact ⟨_, rfl, Kd.R_nil _ _ _ _ _, hB.out⟩
    · have d1 : decide (b0 < 0) = false := by simp; omega
      have d2 : decide (16 ≤ b0) = false := by simp; omega
      have d3 : decide (b1 < 0) = false := by simp; omega
      have d4 : decide (16 ≤ b1) = false := by simp; omega
      have d5 : decide (b2 < 1) = false := by simp; omega
      have d6 : decide (wrap64 (16 - b0) < b2) = true := by rw [w64 (x := 16 - b0) (by omega) (by omega)]; simp; omega
      clear h0
      go_enter Try.func28, Try.ntmps28
      go_wp2
      go_ret2
      exact ⟨_, rfl, Kd.R_nil _ _ _ _ _, hB.out⟩
    · have d1 : decide (b0 < 0) = false := by simp; omega
      have d2 : decide (16 ≤ b0) = false := by simp; omega
      have d3 : decide (b1 < 0) = false := by simp; omega
      have d4 : decide (16 ≤ b1) = false := by simp; omega
      have d5 : decide (b2 < 1) = false := by simp; omega
      have d6 : decide (wrap64 (16 - b0) < b2) = false := by rw [w64 (x := 16 - b0) (by omega) (by omega)]; simp; omega
      have d7 : decide (b3 < 1) = true := by simp; omega
      clear h0
      go_enter Try.func28, Try.ntmps28
      go_wp2
      go_ret2
      exact ⟨_, rfl, Kd.R_nil _ _ _ _ _, hB.out⟩
    · have d1 : decide (b0 < 0) = false := by simp; omega
      have d2 : decide (16 ≤ b0) = false := by simp; omega
      have d3 : decide (b1 < 0) = false := by simp; omega
      have d4 : decide (16 ≤ b1) = false := by simp; omega
      have d5 : decide (b2 < 1) = false := by simp; omega
      have d6 : decide (wrap64 (16 - b0) < b2) = false := by rw [w64 (x := 16 - b0) (by omega) (by omega)]; simp; omega
      have d7 : decide (b3 < 1) = false := by simp; omega
      have d8 : decide (wrap64 (16 - b1) < b3) = true := by rw [w64 (x := 16 - b1) (by omega) (by omega)]; simp; omega
      clear h0
      go_enter Try.func28, Try.ntmps28
      go_wp2
      go_ret2
      exact ⟨_, rfl, Kd.R_nil _ _ _ _ _, hB.out⟩
end Go.Proofs.Ytfgeickfheogoaa.Q

namespace Go.Proofs.Ytfgeickfheogoaa.Q
open Go.RowKit Go.Proofs.YtfgeickfheogoaaW.PrintWords Go.Proofs.YtfgeickfheogoaaW.PrintLast Go.Proofs.YtfgeickfheogoaaW.PrintMore
attribute [local go_sem] max2_int min2_int max_two min_two max_three min_three max_four min_four
set_option linter.unusedVariables false
set_option linter.unusedSimpArgs false
/-! ### spec_validBox: function 61 -/
def spec_validBox.f (a0_0 : Int) (a0_1 : Int) (a0_2 : Int) (l0_3 : List Int) (a1_0 : Int) (a1_1 : Int) (a1_2 : Int) (a1_3 : Int) : Option (Bool) := (spec_inRange.f a1_0 0 (wrap64 (a0_0 - 1))).bind fun t62003 => (if t62003 = true then ((spec_inRange.f a1_1 0 (wrap64 (a0_1 - 1))).bind fun t62004 => (if t62004 = true then ((spec_inRange.f a1_2 1 (wrap64 (a0_0 - a1_0))).bind fun t62005 => (if t62005 = true then ((spec_inRange.f a1_3 1 (wrap64 (a0_1 - a1_1))).bind fun t62006 => (some t62006)) else (some false))) else (some false))) else (some false))
set_option maxHeartbeats 8000000 in
set_option maxRecDepth 100000 in
theorem spec_validBox.calls (a0_0 : Int) (a0_1 : Int) (a0_2 : Int) (A0_3 : Option Addr) (c0_3 : Nat) (l0_3 : List Int) (a1_0 : Int) (a1_1 : Int) (a1_2 : Int) (a1_3 : Int) (r : Bool) (w : World) (hr0_3 : Kd.C (Kd.int .i64) w A0_3 l0_3.length l0_3) (hc0_3 : l0_3.length ≤ c0_3) (h : spec_validBox.f a0_0 a0_1 a0_2 l0_3 a1_0 a1_1 a1_2 a1_3 = some r) :
    Calls Try.prog 61 #[.agg #[.int .i64 a0_0, .int .i64 a0_1, .int .i64 a0_2, .slice A0_3 l0_3.length c0_3], .agg #[.int .i64 a1_0, .int .i64 a1_1, .int .i64 a1_2, .int .i64 a1_3]] w fun e w' => e = .returned (.bool r) ∧ Below w.heap.size w w' := by
  have hu72 := Try.underlying72
  have hu36 := Try.underlying36
  have HR0_3 := Aside0.mk hr0_3
  have HC0_3 := Aside0.mk hc0_3
  clear hr0_3 hc0_3
  have HB := Aside0.mk (Below.refl w.heap.size w)
  have H : ((spec_inRange.f a1_0 0 (wrap64 (a0_0 - 1))).bind fun t62003 => (if t62003 = true then ((spec_inRange.f a1_1 0 (wrap64 (a0_1 - 1))).bind fun t62004 => (if t62004 = true then ((spec_inRange.f a1_2 1 (wrap64 (a0_0 - a1_0))).bind fun t62005 => (if t62005 = true then ((spec_inRange.f a1_3 1 (wrap64 (a0_1 - a1_1))).bind fun t62006 => (some t62006)) else (some false))) else (some false))) else (some false))) = some r := h
  clear h
  replace H := Option.bind_eq_some_iff.mp H
  obtain ⟨t62003, A30, H⟩ := H
  replace H : (if t62003 = true then ((spec_inRange.f a1_1 0 (wrap64 (a0_1 - 1))).bind fun t62004 => (if t62004 = true then ((spec_inRange.f a1_2 1 (wrap64 (a0_0 - a1_0))).bind fun t62005 => (if t62005 = true then ((spec_inRange.f a1_3 1 (wrap64 (a0_1 - a1_1))).bind fun t62006 => (some t62006)) else (some false))) else (some false))) else (some false)) = some r := H
  have A3 := Aside0.mk A30
  clear A30
  by_cases c4 : t62003 = true
  · subst c4
    have H1 : ((spec_inRange.f a1_1 0 (wrap64 (a0_1 - 1))).bind fun t62004 => (if t62004 = true then ((spec_inRange.f a1_2 1 (wrap64 (a0_0 - a1_0))).bind fun t62005 => (if t62005 = true then ((spec_inRange.f a1_3 1 (wrap64 (a0_1 - a1_1))).bind fun t62006 => (some t62006)) else (some false))) else (some false))) = some r := by rw [if_pos rfl] at H; exact H
    clear H
    have H := H1
    clear H1
    replace H := Option.bind_eq_some_iff.mp H
    obtain ⟨t62004, A50, H⟩ := H
    replace H : (if t62004 = true then ((spec_inRange.f a1_2 1 (wrap64 (a0_0 - a1_0))).bind fun t62005 => (if t62005 = true then ((spec_inRange.f a1_3 1 (wrap64 (a0_1 - a1_1))).bind fun t62006 => (some t62006)) else (some false))) else (some false)) = some r := H
    have A5 := Aside0.mk A50
    clear A50
    by_cases c6 : t62004 = true
    · subst c6
      have H1 : ((spec_inRange.f a1_2 1 (wrap64 (a0_0 - a1_0))).bind fun t62005 => (if t62005 = true then ((spec_inRange.f a1_3 1 (wrap64 (a0_1 - a1_1))).bind fun t62006 => (some t62006)) else (some false))) = some r := by rw [if_pos rfl] at H; exact H
      clear H
      have H := H1
      clear H1
      replace H := Option.bind_eq_some_iff.mp H
      obtain ⟨t62005, A70, H⟩ := H
      replace H : (if t62005 = true then ((spec_inRange.f a1_3 1 (wrap64 (a0_1 - a1_1))).bind fun t62006 => (some t62006)) else (some false)) = some r := H
      have A7 := Aside0.mk A70
      clear A70
      by_cases c8 : t62005 = true
      · subst c8
        have H1 : ((spec_inRange.f a1_3 1 (wrap64 (a0_1 - a1_1))).bind fun t62006 => (some t62006)) = some r := by rw [if_pos rfl] at H; exact H
        clear H
        have H := H1
        clear H1
        replace H := Option.bind_eq_some_iff.mp H
        obtain ⟨t62006, A90, H⟩ := H
        replace H : (some t62006) = some r := H
        have A9 := Aside0.mk A90
        clear A90
        obtain rfl := Option.some.inj H
        go_enter Try.func61, Try.ntmps61
        go_wp2_with (first | ((with_reducible refine gate_dst (N := 2) rfl ?_); refine box_event ?hg (N := 2) ?hd (cs := #[.int .i64 a0_0, .int .i64 a0_1, .int .i64 a0_2, .slice A0_3 l0_3.length c0_3]) (t := 72) ?hr ?_; (case hd => rfl); (case hg => rfl); (case hr => first | (go_simp; done) | (go_simp; rfl)); intro gb62001 hg w10 hbox hb; have n0_ := Aside0.mk (below_step (by repeat (first | (with_reducible first | exact HB.out | apply below_alloc | apply pw_below_drewN | apply below_drew1) | exact HB.out)) hb); have n1_ := Aside0.mk (hbox); have n2_ := Aside0.mk ((by rw [hg]; exact (below_size (by repeat (first | (with_reducible first | exact HB.out | apply below_alloc | apply pw_below_drewN | apply below_drew1) | exact HB.out))) : w.heap.size ≤ gb62001)); have n3_ := Aside0.mk ((by rw [hg]; exact (below_size (by repeat (first | (with_reducible first | exact HB.out | apply below_alloc | apply pw_below_drewN | apply below_drew1) | exact HB.out))) : w.heap.size ≤ gb62001)); clear HB; have HB := n0_; have BK62001 := n1_; have GW62001 := n2_; have GE62001 := n3_; clear n0_ n1_ n2_ n3_; clear hb hbox hg) | ((with_reducible refine gate_dst (N := 3) rfl ?_); refine box_event ?hg (N := 3) ?hd (cs := #[.int .i64 a1_0, .int .i64 a1_1, .int .i64 a1_2, .int .i64 a1_3]) (t := 36) ?hr ?_; (case hd => rfl); (case hg => rfl); (case hr => first | (go_simp; done) | (go_simp; rfl)); intro gb62002 hg w11 hbox hb; have n0_ := Aside0.mk (blk_below (g := gb62001) (o := .cells #[.int .i64 a0_0, .int .i64 a0_1, .int .i64 a0_2, .slice A0_3 l0_3.length c0_3] 72 (0, 0)) (by (with_reducible repeat (first | refine blk_drewN ?_ _ | refine blk_drew ?_ | refine blk_alloc ?_ _)); exact BK62001.out) hb); have n1_ := Aside0.mk (below_step (by repeat (first | (with_reducible first | exact HB.out | apply below_alloc | apply pw_below_drewN | apply below_drew1 | refine below_set ?_ GE62001.out) | exact HB.out)) hb); have n2_ := Aside0.mk (hbox); have n3_ := Aside0.mk ((by rw [hg]; exact (below_size (by repeat (first | (with_reducible first | exact HB.out | apply below_alloc | apply pw_below_drewN | apply below_drew1 | refine below_set ?_ GE62001.out) | exact HB.out))) : w.heap.size ≤ gb62002)); have n4_ := Aside0.mk ((by rw [hg]; exact (below_size (by repeat (first | (with_reducible first | exact HB.out | apply below_alloc | apply pw_below_drewN | apply below_drew1 | refine below_set ?_ GE62001.out) | exact HB.out))) : w.heap.size ≤ gb62002)); have n5_ := Aside0.mk ((by rw [hg]; exact Nat.ne_of_lt (blk_lt (g := gb62001) (o := .cells #[.int .i64 a0_0, .int .i64 a0_1, .int .i64 a0_2, .slice A0_3 l0_3.length c0_3] 72 (0, 0)) (by (with_reducible repeat (first | refine blk_drewN ?_ _ | refine blk_drew ?_ | refine blk_alloc ?_ _)); exact BK62001.out)) : gb62001 ≠ gb62002)); have n6_ := Aside0.mk ((by rw [hg]; exact Nat.ne_of_gt (blk_lt (g := gb62001) (o := .cells #[.int .i64 a0_0, .int .i64 a0_1, .int .i64 a0_2, .slice A0_3 l0_3.length c0_3] 72 (0, 0)) (by (with_reducible repeat (first | refine blk_drewN ?_ _ | refine blk_drew ?_ | refine blk_alloc ?_ _)); exact BK62001.out)) : gb62002 ≠ gb62001)); clear BK62001; clear HB; have BK62001 := n0_; have HB := n1_; have BK62002 := n2_; have GW62002 := n3_; have GE62002 := n4_; have NB62001_62002 := n5_; have NB62002_62001 := n6_; clear n0_ n1_ n2_ n3_ n4_ n5_ n6_; clear hb hbox hg; have hnb12 := NB62002_62001.out; have hnc12 := NB62001_62002.out; have hcz13_0 : w11.cell? ⟨gb62002, 0, none⟩ = some (.int .i64 a1_0) := (blk_cell BK62002.out 0).trans rfl; have hcz13_1 : w11.cell? ⟨gb62002, 1, none⟩ = some (.int .i64 a1_1) := (blk_cell BK62002.out 1).trans rfl; have hcz13_2 : w11.cell? ⟨gb62002, 2, none⟩ = some (.int .i64 a1_2) := (blk_cell BK62002.out 2).trans rfl; have hcz13_3 : w11.cell? ⟨gb62002, 3, none⟩ = some (.int .i64 a1_3) := (blk_cell BK62002.out 3).trans rfl; have hfz13_0 := blk_frozen BK62002.out 0; have hfz13_1 := blk_frozen BK62002.out 1; have hfz13_2 := blk_frozen BK62002.out 2; have hfz13_3 := blk_frozen BK62002.out 3; have hcz14_0 : w11.cell? ⟨gb62001, 0, none⟩ = some (.int .i64 a0_0) := (blk_cell BK62001.out 0).trans rfl; have hcz14_1 : w11.cell? ⟨gb62001, 1, none⟩ = some (.int .i64 a0_1) := (blk_cell BK62001.out 1).trans rfl; have hcz14_2 : w11.cell? ⟨gb62001, 2, none⟩ = some (.int .i64 a0_2) := (blk_cell BK62001.out 2).trans rfl; have hcz14_3 : w11.cell? ⟨gb62001, 3, none⟩ = some (.slice A0_3 l0_3.length c0_3) := (blk_cell BK62001.out 3).trans rfl; have hfz14_0 := blk_frozen BK62001.out 0; have hfz14_1 := blk_frozen BK62001.out 1; have hfz14_2 := blk_frozen BK62001.out 2; have hfz14_3 := blk_frozen BK62001.out 3) | ((with_reducible refine gate_callee (f := 57) rfl ?_); refine goesL_ (some 10) rfl rfl Try.func57 (by kernel_rfl) rfl #[.int .i64 a1_0, .int .i64 0, .int .i64 (wrap64 (a0_0 - 1))] rfl (by (try simp only [List.map_toArray, List.map_cons, List.map_nil]); first | done | rfl | (simp only [List.length_drop, List.length_take]; rfl)) ?_; (with_reducible refine (spec_inRange.calls a1_0 0 (wrap64 (a0_0 - 1)) true _ A3.out).mono ?_); rintro e w' ⟨rfl, ⟨nd, rfl⟩⟩; refine ⟨_, rfl, ?_⟩) | (go_at_call 57; (with_reducible refine (spec_inRange.calls a1_1 0 (wrap64 (a0_1 - 1)) true _ A5.out).mono ?_); rintro e w' ⟨rfl, ⟨nd, rfl⟩⟩) | (go_at_call 57; (with_reducible refine (spec_inRange.calls a1_2 1 (wrap64 (a0_0 - a1_0)) true _ A7.out).mono ?_); rintro e w' ⟨rfl, ⟨nd, rfl⟩⟩) | (go_at_call 57; (with_reducible refine (spec_inRange.calls a1_3 1 (wrap64 (a0_1 - a1_1)) t62006 _ A9.out).mono ?_); rintro e w' ⟨rfl, ⟨nd, rfl⟩⟩))
        go_ret
        exact ⟨by first | rfl | (simp [errW_none, errW_some] <;> rfl) | (simp [*, errW_none, errW_some] <;> rfl), by repeat (first | (with_reducible first | exact HB.out | apply below_alloc | apply pw_below_drewN | apply below_drew1 | refine below_set ?_ GE62001.out | refine below_set ?_ GE62002.out) | exact HB.out)⟩
      · replace c8 := Bool.eq_false_iff.mpr c8
        subst c8
        have H1 : (some false) = some r := by rw [if_neg (show ¬ (false = true) by decide)] at H; exact H
        clear H
        have H := H1
        clear H1
        obtain rfl := Option.some.inj H
        go_enter Try.func61, Try.ntmps61
        go_wp2_with (first | ((with_reducible refine gate_dst (N := 2) rfl ?_); refine box_event ?hg (N := 2) ?hd (cs := #[.int .i64 a0_0, .int .i64 a0_1, .int .i64 a0_2, .slice A0_3 l0_3.length c0_3]) (t := 72) ?hr ?_; (case hd => rfl); (case hg => rfl); (case hr => first | (go_simp; done) | (go_simp; rfl)); intro gb62001 hg w15 hbox hb; have n0_ := Aside0.mk (below_step (by repeat (first | (with_reducible first | exact HB.out | apply below_alloc | apply pw_below_drewN | apply below_drew1) | exact HB.out)) hb); have n1_ := Aside0.mk (hbox); have n2_ := Aside0.mk ((by rw [hg]; exact (below_size (by repeat (first | (with_reducible first | exact HB.out | apply below_alloc | apply pw_below_drewN | apply below_drew1) | exact HB.out))) : w.heap.size ≤ gb62001)); have n3_ := Aside0.mk ((by rw [hg]; exact (below_size (by repeat (first | (with_reducible first | exact HB.out | apply below_alloc | apply pw_below_drewN | apply below_drew1) | exact HB.out))) : w.heap.size ≤ gb62001)); clear HB; have HB := n0_; have BK62001 := n1_; have GW62001 := n2_; have GE62001 := n3_; clear n0_ n1_ n2_ n3_; clear hb hbox hg) | ((with_reducible refine gate_dst (N := 3) rfl ?_); refine box_event ?hg (N := 3) ?hd (cs := #[.int .i64 a1_0, .int .i64 a1_1, .int .i64 a1_2, .int .i64 a1_3]) (t := 36) ?hr ?_; (case hd => rfl); (case hg => rfl); (case hr => first | (go_simp; done) | (go_simp; rfl)); intro gb62002 hg w16 hbox hb; have n0_ := Aside0.mk (blk_below (g := gb62001) (o := .cells #[.int .i64 a0_0, .int .i64 a0_1, .int .i64 a0_2, .slice A0_3 l0_3.length c0_3] 72 (0, 0)) (by (with_reducible repeat (first | refine blk_drewN ?_ _ | refine blk_drew ?_ | refine blk_alloc ?_ _)); exact BK62001.out) hb); have n1_ := Aside0.mk (below_step (by repeat (first | (with_reducible first | exact HB.out | apply below_alloc | apply pw_below_drewN | apply below_drew1 | refine below_set ?_ GE62001.out) | exact HB.out)) hb); have n2_ := Aside0.mk (hbox); have n3_ := Aside0.mk ((by rw [hg]; exact (below_size (by repeat (first | (with_reducible first | exact HB.out | apply below_alloc | apply pw_below_drewN | apply below_drew1 | refine below_set ?_ GE62001.out) | exact HB.out))) : w.heap.size ≤ gb62002)); have n4_ := Aside0.mk ((by rw [hg]; exact (below_size (by repeat (first | (with_reducible first | exact HB.out | apply below_alloc | apply pw_below_drewN | apply below_drew1 | refine below_set ?_ GE62001.out) | exact HB.out))) : w.heap.size ≤ gb62002)); have n5_ := Aside0.mk ((by rw [hg]; exact Nat.ne_of_lt (blk_lt (g := gb62001) (o := .cells #[.int .i64 a0_0, .int .i64 a0_1, .int .i64 a0_2, .slice A0_3 l0_3.length c0_3] 72 (0, 0)) (by (with_reducible repeat (first | refine blk_drewN ?_ _ | refine blk_drew ?_ | refine blk_alloc ?_ _)); exact BK62001.out)) : gb62001 ≠ gb62002)); have n6_ := Aside0.mk ((by rw [hg]; exact Nat.ne_of_gt (blk_lt (g := gb62001) (o := .cells #[.int .i64 a0_0, .int .i64 a0_1, .int .i64 a0_2, .slice A0_3 l0_3.length c0_3] 72 (0, 0)) (by (with_reducible repeat (first | refine blk_drewN ?_ _ | refine blk_drew ?_ | refine blk_alloc ?_ _)); exact BK62001.out)) : gb62002 ≠ gb62001)); clear BK62001; clear HB; have BK62001 := n0_; have HB := n1_; have BK62002 := n2_; have GW62002 := n3_; have GE62002 := n4_; have NB62001_62002 := n5_; have NB62002_62001 := n6_; clear n0_ n1_ n2_ n3_ n4_ n5_ n6_; clear hb hbox hg; have hnb17 := NB62002_62001.out; have hnc17 := NB62001_62002.out; have hcz18_0 : w16.cell? ⟨gb62002, 0, none⟩ = some (.int .i64 a1_0) := (blk_cell BK62002.out 0).trans rfl; have hcz18_1 : w16.cell? ⟨gb62002, 1, none⟩ = some (.int .i64 a1_1) := (blk_cell BK62002.out 1).trans rfl; have hcz18_2 : w16.cell? ⟨gb62002, 2, none⟩ = some (.int .i64 a1_2) := (blk_cell BK62002.out 2).trans rfl; have hcz18_3 : w16.cell? ⟨gb62002, 3, none⟩ = some (.int .i64 a1_3) := (blk_cell BK62002.out 3).trans rfl; have hfz18_0 := blk_frozen BK62002.out 0; have hfz18_1 := blk_frozen BK62002.out 1; have hfz18_2 := blk_frozen BK62002.out 2; have hfz18_3 := blk_frozen BK62002.out 3; have hcz19_0 : w16.cell? ⟨gb62001, 0, none⟩ = some (.int .i64 a0_0) := (blk_cell BK62001.out 0).trans rfl; have hcz19_1 : w16.cell? ⟨gb62001, 1, none⟩ = some (.int .i64 a0_1) := (blk_cell BK62001.out 1).trans rfl; have hcz19_2 : w16.cell? ⟨gb62001, 2, none⟩ = some (.int .i64 a0_2) := (blk_cell BK62001.out 2).trans rfl; have hcz19_3 : w16.cell? ⟨gb62001, 3, none⟩ = some (.slice A0_3 l0_3.length c0_3) := (blk_cell BK62001.out 3).trans rfl; have hfz19_0 := blk_frozen BK62001.out 0; have hfz19_1 := blk_frozen BK62001.out 1; have hfz19_2 := blk_frozen BK62001.out 2; have hfz19_3 := blk_frozen BK62001.out 3) | ((with_reducible refine gate_callee (f := 57) rfl ?_); refine goesL_ (some 10) rfl rfl Try.func57 (by kernel_rfl) rfl #[.int .i64 a1_0, .int .i64 0, .int .i64 (wrap64 (a0_0 - 1))] rfl (by (try simp only [List.map_toArray, List.map_cons, List.map_nil]); first | done | rfl | (simp only [List.length_drop, List.length_take]; rfl)) ?_; (with_reducible refine (spec_inRange.calls a1_0 0 (wrap64 (a0_0 - 1)) true _ A3.out).mono ?_); rintro e w' ⟨rfl, ⟨nd, rfl⟩⟩; refine ⟨_, rfl, ?_⟩) | (go_at_call 57; (with_reducible refine (spec_inRange.calls a1_1 0 (wrap64 (a0_1 - 1)) true _ A5.out).mono ?_); rintro e w' ⟨rfl, ⟨nd, rfl⟩⟩) | (go_at_call 57; (with_reducible refine (spec_inRange.calls a1_2 1 (wrap64 (a0_0 - a1_0)) false _ A7.out).mono ?_); rintro e w' ⟨rfl, ⟨nd, rfl⟩⟩))
        go_ret
        exact ⟨by first | rfl | (simp [errW_none, errW_some] <;> rfl) | (simp [*, errW_none, errW_some] <;> rfl), by repeat (first | (with_reducible first | exact HB.out | apply below_alloc | apply pw_below_drewN | apply below_drew1 | refine below_set ?_ GE62001.out | refine below_set ?_ GE62002.out) | exact HB.out)⟩
    · replace c6 := Bool.eq_false_iff.mpr c6
      subst c6
      have H1 : (some false) = some r := by rw [if_neg (show ¬ (false = true) by decide)] at H; exact H
      clear H
      have H := H1
      clear H1
      obtain rfl := Option.some.inj H
      go_enter Try.func61, Try.ntmps61
      go_wp2_with (first | ((with_reducible refine gate_dst (N := 2) rfl ?_); refine box_event ?hg (N := 2) ?hd (cs := #[.int .i64 a0_0, .int .i64 a0_1, .int .i64 a0_2, .slice A0_3 l0_3.length c0_3]) (t := 72) ?hr ?_; (case hd => rfl); (case hg => rfl); (case hr => first | (go_simp; done) | (go_simp; rfl)); intro gb62001 hg w20 hbox hb; have n0_ := Aside0.mk (below_step (by repeat (first | (with_reducible first | exact HB.out | apply below_alloc | apply pw_below_drewN | apply below_drew1) | exact HB.out)) hb); have n1_ := Aside0.mk (hbox); have n2_ := Aside0.mk ((by rw [hg]; exact (below_size (by repeat (first | (with_reducible first | exact HB.out | apply below_alloc | apply pw_below_drewN | apply below_drew1) | exact HB.out))) : w.heap.size ≤ gb62001)); have n3_ := Aside0.mk ((by rw [hg]; exact (below_size (by repeat (first | (with_reducible first | exact HB.out | apply below_alloc | apply pw_below_drewN | apply below_drew1) | exact HB.out))) : w.heap.size ≤ gb62001)); clear HB; have HB := n0_; have BK62001 := n1_; have GW62001 := n2_; have GE62001 := n3_; clear n0_ n1_ n2_ n3_; clear hb hbox hg) | ((with_reducible refine gate_dst (N := 3) rfl ?_); refine box_event ?hg (N := 3) ?hd (cs := #[.int .i64 a1_0, .int .i64 a1_1, .int .i64 a1_2, .int .i64 a1_3]) (t := 36) ?hr ?_; (case hd => rfl); (case hg => rfl); (case hr => first | (go_simp; done) | (go_simp; rfl)); intro gb62002 hg w21 hbox hb; have n0_ := Aside0.mk (blk_below (g := gb62001) (o := .cells #[.int .i64 a0_0, .int .i64 a0_1, .int .i64 a0_2, .slice A0_3 l0_3.length c0_3] 72 (0, 0)) (by (with_reducible repeat (first | refine blk_drewN ?_ _ | refine blk_drew ?_ | refine blk_alloc ?_ _)); exact BK62001.out) hb); have n1_ := Aside0.mk (below_step (by repeat (first | (with_reducible first | exact HB.out | apply below_alloc | apply pw_below_drewN | apply below_drew1 | refine below_set ?_ GE62001.out) | exact HB.out)) hb); have n2_ := Aside0.mk (hbox); have n3_ := Aside0.mk ((by rw [hg]; exact (below_size (by repeat (first | (with_reducible first | exact HB.out | apply below_alloc | apply pw_below_drewN | apply below_drew1 | refine below_set ?_ GE62001.out) | exact HB.out))) : w.heap.size ≤ gb62002)); have n4_ := Aside0.mk ((by rw [hg]; exact (below_size (by repeat (first | (with_reducible first | exact HB.out | apply below_alloc | apply pw_below_drewN | apply below_drew1 | refine below_set ?_ GE62001.out) | exact HB.out))) : w.heap.size ≤ gb62002)); have n5_ := Aside0.mk ((by rw [hg]; exact Nat.ne_of_lt (blk_lt (g := gb62001) (o := .cells #[.int .i64 a0_0, .int .i64 a0_1, .int .i64 a0_2, .slice A0_3 l0_3.length c0_3] 72 (0, 0)) (by (with_reducible repeat (first | refine blk_drewN ?_ _ | refine blk_drew ?_ | refine blk_alloc ?_ _)); exact BK62001.out)) : gb62001 ≠ gb62002)); have n6_ := Aside0.mk ((by rw [hg]; exact Nat.ne_of_gt (blk_lt (g := gb62001) (o := .cells #[.int .i64 a0_0, .int .i64 a0_1, .int .i64 a0_2, .slice A0_3 l0_3.length c0_3] 72 (0, 0)) (by (with_reducible repeat (first | refine blk_drewN ?_ _ | refine blk_drew ?_ | refine blk_alloc ?_ _)); exact BK62001.out)) : gb62002 ≠ gb62001)); clear BK62001; clear HB; have BK62001 := n0_; have HB := n1_; have BK62002 := n2_; have GW62002 := n3_; have GE62002 := n4_; have NB62001_62002 := n5_; have NB62002_62001 := n6_; clear n0_ n1_ n2_ n3_ n4_ n5_ n6_; clear hb hbox hg; have hnb22 := NB62002_62001.out; have hnc22 := NB62001_62002.out; have hcz23_0 : w21.cell? ⟨gb62002, 0, none⟩ = some (.int .i64 a1_0) := (blk_cell BK62002.out 0).trans rfl; have hcz23_1 : w21.cell? ⟨gb62002, 1, none⟩ = some (.int .i64 a1_1) := (blk_cell BK62002.out 1).trans rfl; have hcz23_2 : w21.cell? ⟨gb62002, 2, none⟩ = some (.int .i64 a1_2) := (blk_cell BK62002.out 2).trans rfl; have hcz23_3 : w21.cell? ⟨gb62002, 3, none⟩ = some (.int .i64 a1_3) := (blk_cell BK62002.out 3).trans rfl; have hfz23_0 := blk_frozen BK62002.out 0; have hfz23_1 := blk_frozen BK62002.out 1; have hfz23_2 := blk_frozen BK62002.out 2; have hfz23_3 := blk_frozen BK62002.out 3; have hcz24_0 : w21.cell? ⟨gb62001, 0, none⟩ = some (.int .i64 a0_0) := (blk_cell BK62001.out 0).trans rfl; have hcz24_1 : w21.cell? ⟨gb62001, 1, none⟩ = some (.int .i64 a0_1) := (blk_cell BK62001.out 1).trans rfl; have hcz24_2 : w21.cell? ⟨gb62001, 2, none⟩ = some (.int .i64 a0_2) := (blk_cell BK62001.out 2).trans rfl; have hcz24_3 : w21.cell? ⟨gb62001, 3, none⟩ = some (.slice A0_3 l0_3.length c0_3) := (blk_cell BK62001.out 3).trans rfl; have hfz24_0 := blk_frozen BK62001.out 0; have hfz24_1 := blk_frozen BK62001.out 1; have hfz24_2 := blk_frozen BK62001.out 2; have hfz24_3 := blk_frozen BK62001.out 3) | ((with_reducible refine gate_callee (f := 57) rfl ?_); refine goesL_ (some 10) rfl rfl Try.func57 (by kernel_rfl) rfl #[.int .i64 a1_0, .int .i64 0, .int .i64 (wrap64 (a0_0 - 1))] rfl (by (try simp only [List.map_toArray, List.map_cons, List.map_nil]); first | done | rfl | (simp only [List.length_drop, List.length_take]; rfl)) ?_; (with_reducible refine (spec_inRange.calls a1_0 0 (wrap64 (a0_0 - 1)) true _ A3.out).mono ?_); rintro e w' ⟨rfl, ⟨nd, rfl⟩⟩; refine ⟨_, rfl, ?_⟩) | (go_at_call 57; (with_reducible refine (spec_inRange.calls a1_1 0 (wrap64 (a0_1 - 1)) false _ A5.out).mono ?_); rintro e w' ⟨rfl, ⟨nd, rfl⟩⟩))
      go_ret
      exact ⟨by first | rfl | (simp [errW_none, errW_some] <;> rfl) | (simp [*, errW_none, errW_some] <;> rfl), by repeat (first | (with_reducible first | exact HB.out | apply below_alloc | apply pw_below_drewN | apply below_drew1 | refine below_set ?_ GE62001.out | refine below_set ?_ GE62002.out) | exact HB.out)⟩
  · replace c4 := Bool.eq_false_iff.mpr c4
    subst c4
    have H1 : (some false) = some r := by rw [if_neg (show ¬ (false = true) by decide)] at H; exact H
    clear H
    have H := H1
    clear H1
    obtain rfl := Option.some.inj H
    go_enter Try.func61, Try.ntmps61
    go_wp2_with (first | ((with_reducible refine gate_dst (N := 2) rfl ?_); refine box_event ?hg (N := 2) ?hd (cs := #[.int .i64 a0_0, .int .i64 a0_1, .int .i64 a0_2, .slice A0_3 l0_3.length c0_3]) (t := 72) ?hr ?_; (case hd => rfl); (case hg => rfl); (case hr => first | (go_simp; done) | (go_simp; rfl)); intro gb62001 hg w25 hbox hb; have n0_ := Aside0.mk (below_step (by repeat (first | (with_reducible first | exact HB.out | apply below_alloc | apply pw_below_drewN | apply below_drew1) | exact HB.out)) hb); have n1_ := Aside0.mk (hbox); have n2_ := Aside0.mk ((by rw [hg]; exact (below_size (by repeat (first | (with_reducible first | exact HB.out | apply below_alloc | apply pw_below_drewN | apply below_drew1) | exact HB.out))) : w.heap.size ≤ gb62001)); have n3_ := Aside0.mk ((by rw [hg]; exact (below_size (by repeat (first | (with_reducible first | exact HB.out | apply below_alloc | apply pw_below_drewN | apply below_drew1) | exact HB.out))) : w.heap.size ≤ gb62001)); clear HB; have HB := n0_; have BK62001 := n1_; have GW62001 := n2_; have GE62001 := n3_; clear n0_ n1_ n2_ n3_; clear hb hbox hg) | ((with_reducible refine gate_dst (N := 3) rfl ?_); refine box_event ?hg (N := 3) ?hd (cs := #[.int .i64 a1_0, .int .i64 a1_1, .int .i64 a1_2, .int .i64 a1_3]) (t := 36) ?hr ?_; (case hd => rfl); (case hg => rfl); (case hr => first | (go_simp; done) | (go_simp; rfl)); intro gb62002 hg w26 hbox hb; have n0_ := Aside0.mk (blk_below (g := gb62001) (o := .cells #[.int .i64 a0_0, .int .i64 a0_1, .int .i64 a0_2, .slice A0_3 l0_3.length c0_3] 72 (0, 0)) (by (with_reducible repeat (first | refine blk_drewN ?_ _ | refine blk_drew ?_ | refine blk_alloc ?_ _)); exact BK62001.out) hb); have n1_ := Aside0.mk (below_step (by repeat (first | (with_reducible first | exact HB.out | apply below_alloc | apply pw_below_drewN | apply below_drew1 | refine below_set ?_ GE62001.out) | exact HB.out)) hb); have n2_ := Aside0.mk (hbox); have n3_ := Aside0.mk ((by rw [hg]; exact (below_size (by repeat (first | (with_reducible first | exact HB.out | apply below_alloc | apply pw_below_drewN | apply below_drew1 | refine below_set ?_ GE62001.out) | exact HB.out))) : w.heap.size ≤ gb62002)); have n4_ := Aside0.mk ((by rw [hg]; exact (below_size (by repeat (first | (with_reducible first | exact HB.out | apply below_alloc | apply pw_below_drewN | apply below_drew1 | refine below_set ?_ GE62001.out) | exact HB.out))) : w.heap.size ≤ gb62002)); have n5_ := Aside0.mk ((by rw [hg]; exact Nat.ne_of_lt (blk_lt (g := gb62001) (o := .cells #[.int .i64 a0_0, .int .i64 a0_1, .int .i64 a0_2, .slice A0_3 l0_3.length c0_3] 72 (0, 0)) (by (with_reducible repeat (first | refine blk_drewN ?_ _ | refine blk_drew ?_ | refine blk_alloc ?_ _)); exact BK62001.out)) : gb62001 ≠ gb62002)); have n6_ := Aside0.mk ((by rw [hg]; exact Nat.ne_of_gt (blk_lt (g := gb62001) (o := .cells #[.int .i64 a0_0, .int .i64 a0_1, .int .i64 a0_2, .slice A0_3 l0_3.length c0_3] 72 (0, 0)) (by (with_reducible repeat (first | refine blk_drewN ?_ _ | refine blk_drew ?_ | refine blk_alloc ?_ _)); exact BK62001.out)) : gb62002 ≠ gb62001)); clear BK62001; clear HB; have BK62001 := n0_; have HB := n1_; have BK62002 := n2_; have GW62002 := n3_; have GE62002 := n4_; have NB62001_62002 := n5_; have NB62002_62001 := n6_; clear n0_ n1_ n2_ n3_ n4_ n5_ n6_; clear hb hbox hg; have hnb27 := NB62002_62001.out; have hnc27 := NB62001_62002.out; have hcz28_0 : w26.cell? ⟨gb62002, 0, none⟩ = some (.int .i64 a1_0) := (blk_cell BK62002.out 0).trans rfl; have hcz28_1 : w26.cell? ⟨gb62002, 1, none⟩ = some (.int .i64 a1_1) := (blk_cell BK62002.out 1).trans rfl; have hcz28_2 : w26.cell? ⟨gb62002, 2, none⟩ = some (.int .i64 a1_2) := (blk_cell BK62002.out 2).trans rfl; have hcz28_3 : w26.cell? ⟨gb62002, 3, none⟩ = some (.int .i64 a1_3) := (blk_cell BK62002.out 3).trans rfl; have hfz28_0 := blk_frozen BK62002.out 0; have hfz28_1 := blk_frozen BK62002.out 1; have hfz28_2 := blk_frozen BK62002.out 2; have hfz28_3 := blk_frozen BK62002.out 3; have hcz29_0 : w26.cell? ⟨gb62001, 0, none⟩ = some (.int .i64 a0_0) := (blk_cell BK62001.out 0).trans rfl; have hcz29_1 : w26.cell? ⟨gb62001, 1, none⟩ = some (.int .i64 a0_1) := (blk_cell BK62001.out 1).trans rfl; have hcz29_2 : w26.cell? ⟨gb62001, 2, none⟩ = some (.int .i64 a0_2) := (blk_cell BK62001.out 2).trans rfl; have hcz29_3 : w26.cell? ⟨gb62001, 3, none⟩ = some (.slice A0_3 l0_3.length c0_3) := (blk_cell BK62001.out 3).trans rfl; have hfz29_0 := blk_frozen BK62001.out 0; have hfz29_1 := blk_frozen BK62001.out 1; have hfz29_2 := blk_frozen BK62001.out 2; have hfz29_3 := blk_frozen BK62001.out 3) | ((with_reducible refine gate_callee (f := 57) rfl ?_); refine goesL_ (some 10) rfl rfl Try.func57 (by kernel_rfl) rfl #[.int .i64 a1_0, .int .i64 0, .int .i64 (wrap64 (a0_0 - 1))] rfl (by (try simp only [List.map_toArray, List.map_cons, List.map_nil]); first | done | rfl | (simp only [List.length_drop, List.length_take]; rfl)) ?_; (with_reducible refine (spec_inRange.calls a1_0 0 (wrap64 (a0_0 - 1)) false _ A3.out).mono ?_); rintro e w' ⟨rfl, ⟨nd, rfl⟩⟩; refine ⟨_, rfl, ?_⟩))
    go_ret
    exact ⟨by first | rfl | (simp [errW_none, errW_some] <;> rfl) | (simp [*, errW_none, errW_some] <;> rfl), by repeat (first | (with_reducible first | exact HB.out | apply below_alloc | apply pw_below_drewN | apply below_drew1 | refine below_set ?_ GE62001.out | refine below_set ?_ GE62002.out) | exact HB.out)⟩

end Go.Proofs.Ytfgeickfheogoaa.Q

namespace Go.Proofs.Ytfgeickfheogoaa.Q
open Go.RowKit Go.Proofs.YtfgeickfheogoaaW.PrintWords Go.Proofs.YtfgeickfheogoaaW.PrintLast Go.Proofs.YtfgeickfheogoaaW.PrintMore
attribute [local go_sem] max2_int min2_int max_two min_two max_three min_three max_four min_four
set_option linter.unusedVariables false
set_option linter.unusedSimpArgs false
/-! ### spec_BoxRegion: function 26 -/
def spec_BoxRegion.l0 : Nat → List (S57) → Int → Int → Int → Int → Int → Option ((List (S57)) × Bool)
  | 0, _, _, _, _, _, _ => none
  | k + 1, x4, x5, x27002000, x27002001, x27002002, x27002003 => if x5 < (wrap64 (x27002001 + x27002003)) then (if x4.length < 5864062014805 then (spec_BoxRegion.l0 k (x4 ++ [(⟨x5, x27002000, wrap64 (x27002000 + x27002002)⟩ : S57)]) (wrap64 (x5 + 1)) x27002000 x27002001 x27002002 x27002003) else (none)) else (some (x4, true))
def spec_BoxRegion.f (k : Nat) (a0_0 : Int) (a0_1 : Int) (a0_2 : Int) (a0_3 : Int) : Option ((List (S57)) × Bool) := (spec_validBox.f 16 16 0 ([] : List Int) a0_0 a0_1 a0_2 a0_3).bind fun t27005 => (if t27005 = true then (spec_BoxRegion.l0 k (([] : List (S57))) a0_1 a0_0 a0_1 a0_2 a0_3) else (some (([] : List (S57)), false)))
theorem spec_BoxRegion.mono_l : ∀ k, (∀ y0 y1 y2 y3 y4 y5, LeO (spec_BoxRegion.l0 k y0 y1 y2 y3 y4 y5) (spec_BoxRegion.l0 (k + 1) y0 y1 y2 y3 y4 y5))
  | 0 => fun _ _ _ _ _ _ r h => by simp [spec_BoxRegion.l0] at h
  | k + 1 => by
    have ih0 := spec_BoxRegion.mono_l k
    · intro y0 y1 y2 y3 y4 y5
      unfold spec_BoxRegion.l0
      repeat' first
      | (with_reducible exact ih0 _ _ _ _ _ _)
      | (with_reducible exact LeO.refl _)
      | (with_reducible exact LeO.none _)
      | (with_reducible refine LeO.ite ?_ ?_)
      | (with_reducible refine LeO.bind ?_ (fun _ => ?_))
      | exact ih0 _ _ _ _ _ _
      | exact LeO.none _
      | refine LeO.ite ?_ ?_
      | refine LeO.bind ?_ (fun _ => ?_)
theorem spec_BoxRegion.mono : ∀ a0 a1 a2 a3 k, LeO (spec_BoxRegion.f k a0 a1 a2 a3) (spec_BoxRegion.f (k + 1) a0 a1 a2 a3) := by
  intro a0 a1 a2 a3 k
  have ih0 := spec_BoxRegion.mono_l k
  unfold spec_BoxRegion.f
  repeat' first
      | (with_reducible exact ih0 _ _ _ _ _ _)
      | (with_reducible exact LeO.refl _)
      | (with_reducible exact LeO.none _)
      | (with_reducible refine LeO.ite ?_ ?_)
      | (with_reducible refine LeO.bind ?_ (fun _ => ?_))
      | exact ih0 _ _ _ _ _ _
      | exact LeO.none _
      | refine LeO.ite ?_ ?_
      | refine LeO.bind ?_ (fun _ => ?_)
set_option maxHeartbeats 8000000 in
set_option maxRecDepth 100000 in
theorem spec_BoxRegion.calls (k : Nat) (a0_0 : Int) (a0_1 : Int) (a0_2 : Int) (a0_3 : Int) (r1 : List (S57)) (r2 : Bool) (w : World) (h : spec_BoxRegion.f k a0_0 a0_1 a0_2 a0_3 = some (r1, r2)) :
    Calls Try.prog 26 #[.agg #[.int .i64 a0_0, .int .i64 a0_1, .int .i64 a0_2, .int .i64 a0_3]] w fun e w' => ∃ v0_ : Value, e = .returned (.tuple #[v0_, .bool r2]) ∧ Kd.R k57 57 w' w.heap.size (fun _ => True) v0_ r1 ∧ Below w.heap.size w w' := by
  have hu36 := Try.underlying36
  have hu72 := Try.underlying72
  have hu57 := Try.underlying57
  have HB := Aside0.mk (Below.refl w.heap.size w)
  have H : ((spec_validBox.f 16 16 0 ([] : List Int) a0_0 a0_1 a0_2 a0_3).bind fun t27005 => (if t27005 = true then (spec_BoxRegion.l0 k (([] : List (S57))) a0_1 a0_0 a0_1 a0_2 a0_3) else (some (([] : List (S57)), false)))) = some (r1, r2) := h
  clear h
  obtain ⟨y27002, hy27002⟩ : ∃ y_ : List (S57), y_ = (([] : List (S57))) := ⟨_, rfl⟩
  replace H : ((spec_validBox.f 16 16 0 ([] : List Int) a0_0 a0_1 a0_2 a0_3).bind fun t27005 => (if t27005 = true then (spec_BoxRegion.l0 k y27002 a0_1 a0_0 a0_1 a0_2 a0_3) else (some (([] : List (S57)), false)))) = some (r1, r2) := by first | (rw [hy27002]; with_reducible exact H) | (have H2_ := (Option.bind_some _ _).symm.trans H; rw [hy27002]; with_reducible exact H2_) | (have H2_ := (Option.bind_some _ _).symm.trans H; with_reducible exact H2_) | with_reducible exact H | (rw [hy27002]; exact H) | exact H
  have Ny27002 := Aside0.mk hy27002
  clear hy27002
  replace H := Option.bind_eq_some_iff.mp H
  obtain ⟨t27005, A20, H⟩ := H
  replace H : (if t27005 = true then (spec_BoxRegion.l0 k y27002 a0_1 a0_0 a0_1 a0_2 a0_3) else (some (([] : List (S57)), false))) = some (r1, r2) := H
  have A2 := Aside0.mk A20
  clear A20
  by_cases c3 : t27005 = true
  · subst c3
    have H1 : (spec_BoxRegion.l0 k y27002 a0_1 a0_0 a0_1 a0_2 a0_3) = some (r1, r2) := by rw [if_pos rfl] at H; exact H
    clear H
    have H := H1
    clear H1
    have H' := Aside0.mk H
    clear H
    go_enter Try.func26, Try.ntmps26
    go_wp2_with (first | ((with_reducible refine gate_dst (N := 1) rfl ?_); refine box_event ?hg (N := 1) ?hd (cs := #[.int .i64 a0_0, .int .i64 a0_1, .int .i64 a0_2, .int .i64 a0_3]) (t := 36) ?hr ?_; (case hd => rfl); (case hg => rfl); (case hr => first | (go_simp; done) | (go_simp; rfl)); intro gb27001 hg w4 hbox hb; have n0_ := Aside0.mk (below_step (by repeat (first | (with_reducible first | exact HB.out | apply below_alloc | apply pw_below_drewN | apply below_drew1) | exact HB.out)) hb); have n1_ := Aside0.mk (hbox); have n2_ := Aside0.mk ((by rw [hg]; exact (below_size (by repeat (first | (with_reducible first | exact HB.out | apply below_alloc | apply pw_below_drewN | apply below_drew1) | exact HB.out))) : w.heap.size ≤ gb27001)); have n3_ := Aside0.mk ((by rw [hg]; exact (below_size (by repeat (first | (with_reducible first | exact HB.out | apply below_alloc | apply pw_below_drewN | apply below_drew1) | exact HB.out))) : w.heap.size ≤ gb27001)); clear HB; have HB := n0_; have BK27001 := n1_; have GW27001 := n2_; have GE27001 := n3_; clear n0_ n1_ n2_ n3_; clear hb hbox hg) | ((with_reducible refine gate_dst (N := 6) rfl ?_); refine Kd.R_lit k57 _ 57 ?hg (N := 6) ?hd (xs := ([] : List (S57))) (inner := []) (ok := fun _ => True) (okp := fun _ => True) ?hr ?hp (fun _ hk => hk) trivial (Below.refl _ _) (Nat.le_refl _) (by simp) ?_; (case hd => rfl); (case hg => rfl); (case hr => first | (go_simp; done) | (go_simp; rfl)); (case hp => exact (Reps.none _ _)); intro v27003 w5 ho6 hb hg_ hnew_; clear hg_ hnew_; (first | rw [← Ny27002.out] at ho6 | (simp only [Int.reduceToNat] at ho6; rw [← Ny27002.out] at ho6)); have n0_ := Aside0.mk (Kd.R_lower ho6 (below_size (by repeat (first | (with_reducible first | exact HB.out | apply below_alloc | apply pw_below_drewN | apply below_drew1 | refine below_set ?_ GE27001.out) | exact HB.out)))); have n1_ := Aside0.mk (blk_below (g := gb27001) (o := .cells #[.int .i64 a0_0, .int .i64 a0_1, .int .i64 a0_2, .int .i64 a0_3] 36 (0, 0)) (by (with_reducible repeat (first | refine blk_drewN ?_ _ | refine blk_drew ?_ | refine blk_alloc ?_ _)); exact BK27001.out) hb); have n2_ := Aside0.mk (below_step (by repeat (first | (with_reducible first | exact HB.out | apply below_alloc | apply pw_below_drewN | apply below_drew1 | refine below_set ?_ GE27001.out) | exact HB.out)) hb); clear BK27001; clear HB; have HO27004 := n0_; have BK27001 := n1_; have HB := n2_; clear n0_ n1_ n2_; clear hb ho6; have hcz7_0 : w5.cell? ⟨gb27001, 0, none⟩ = some (.int .i64 a0_0) := (blk_cell BK27001.out 0).trans rfl; have hcz7_1 : w5.cell? ⟨gb27001, 1, none⟩ = some (.int .i64 a0_1) := (blk_cell BK27001.out 1).trans rfl; have hcz7_2 : w5.cell? ⟨gb27001, 2, none⟩ = some (.int .i64 a0_2) := (blk_cell BK27001.out 2).trans rfl; have hcz7_3 : w5.cell? ⟨gb27001, 3, none⟩ = some (.int .i64 a0_3) := (blk_cell BK27001.out 3).trans rfl; have hfz7_0 := blk_frozen BK27001.out 0; have hfz7_1 := blk_frozen BK27001.out 1; have hfz7_2 := blk_frozen BK27001.out 2; have hfz7_3 := blk_frozen BK27001.out 3) | ((with_reducible refine gate_callee (f := 61) rfl ?_); refine goesL_ (some 9) rfl rfl Try.func61 (by kernel_rfl) rfl #[.agg #[.int .i64 16, .int .i64 16, .int .i64 0, .slice none 0 0], .agg #[.int .i64 a0_0, .int .i64 a0_1, .int .i64 a0_2, .int .i64 a0_3]] rfl (by (try simp only [List.map_toArray, List.map_cons, List.map_nil]); first | done | rfl | (simp only [List.length_drop, List.length_take]; rfl)) ?_; (refine (spec_validBox.calls 16 16 0 _ _ ([] : List Int) a0_0 a0_1 a0_2 a0_3 true _ ?side1 ?side2 A2.out).mono ?_); (case side1 => exact Kd.C_nil _ _); (case side2 => exact Nat.le_refl _); rintro e w8 ⟨rfl, hb⟩; refine ⟨_, rfl, ?_⟩; have n0_ := Aside0.mk (Kd.R_below (by (with_reducible repeat (first | apply Kd.R_alloc | apply Kd.R_drewN | apply Kd.R_drew)); exact HO27004.out) hb); have n1_ := Aside0.mk (blk_below (g := gb27001) (o := .cells #[.int .i64 a0_0, .int .i64 a0_1, .int .i64 a0_2, .int .i64 a0_3] 36 (0, 0)) (by (with_reducible repeat (first | refine blk_drewN ?_ _ | refine blk_drew ?_ | refine blk_alloc ?_ _)); exact BK27001.out) hb); have n2_ := Aside0.mk (below_step (by repeat (first | (with_reducible first | exact HB.out | apply below_alloc | apply pw_below_drewN | apply below_drew1 | refine below_set ?_ GE27001.out) | exact HB.out)) hb); clear HO27004; clear BK27001; clear HB; have HO27004 := n0_; have BK27001 := n1_; have HB := n2_; clear n0_ n1_ n2_; (try clear hb); (try clear hb2); (try clear hk); (try clear hi); have hcz9_0 : w8.cell? ⟨gb27001, 0, none⟩ = some (.int .i64 a0_0) := (blk_cell BK27001.out 0).trans rfl; have hcz9_1 : w8.cell? ⟨gb27001, 1, none⟩ = some (.int .i64 a0_1) := (blk_cell BK27001.out 1).trans rfl; have hcz9_2 : w8.cell? ⟨gb27001, 2, none⟩ = some (.int .i64 a0_2) := (blk_cell BK27001.out 2).trans rfl; have hcz9_3 : w8.cell? ⟨gb27001, 3, none⟩ = some (.int .i64 a0_3) := (blk_cell BK27001.out 3).trans rfl; have hfz9_0 := blk_frozen BK27001.out 0; have hfz9_1 := blk_frozen BK27001.out 1; have hfz9_2 := blk_frozen BK27001.out 2; have hfz9_3 := blk_frozen BK27001.out 3))
    go_loopg [4, 5] k (fun kq v4 v5 w' => ∃ (x4_1 : List (S57)) (x5_1 : Int), v5 = .int .i64 x5_1 ∧ Aside0 (spec_BoxRegion.l0 kq x4_1 x5_1 a0_0 a0_1 a0_2 a0_3 = some (r1, r2)) ∧ Aside0 (kq ≤ k) ∧ Aside0 (Kd.R k57 57 w' w.heap.size (fun _ => True) v4 x4_1) ∧ Aside0 (w'.heap[gb27001]? = some (.cells #[.int .i64 a0_0, .int .i64 a0_1, .int .i64 a0_2, .int .i64 a0_3] 36 (0, 0))) ∧ Aside0 (Below w.heap.size w w'))
    case atStart => exact ⟨(y27002), (a0_1), (by first | rfl | (simp; done) | (simp [*]; done)), H', ⟨Nat.le_refl _⟩, ⟨by (with_reducible repeat (first | apply Kd.R_alloc | apply Kd.R_drewN | apply Kd.R_drew)); exact HO27004.out⟩, ⟨by (with_reducible repeat (first | refine blk_drewN ?_ _ | refine blk_drew ?_ | refine blk_alloc ?_ _)); exact BK27001.out⟩, ⟨by repeat (first | (with_reducible first | exact HB.out | apply below_alloc | apply pw_below_drewN | apply below_drew1 | refine below_set ?_ GE27001.out) | exact HB.out)⟩⟩
    case round =>
      clear H'
      try clear c2
      try clear p2
      try clear c3
      try clear c6
      try clear hcz7_0
      try clear hcz7_1
      try clear hcz7_2
      try clear hcz7_3
      try clear hcz9_0
      try clear hcz9_1
      try clear hcz9_2
      try clear hcz9_3
      try clear hfz7_0
      try clear hfz7_1
      try clear hfz7_2
      try clear hfz7_3
      try clear hfz9_0
      try clear hfz9_1
      try clear hfz9_2
      try clear hfz9_3
      obtain ⟨x4_1, x5_1, rfl, HA, HK1, HO_4, BK27001, HB⟩ := hrel
      cases gk with
      | zero => exact absurd HA.out (by simp [spec_BoxRegion.l0])
      | succ k1 =>
        have H := HA.out
        clear HA
        simp only [spec_BoxRegion.l0] at H
        by_cases c10 : x5_1 < (wrap64 (a0_1 + a0_3))
        · rw [if_pos c10] at H
          have c10b0 : decide (x5_1 < (wrap64 (a0_1 + a0_3))) = true := decide_eq_true c10
          clear c10
          by_cases c11 : x4_1.length < 5864062014805
          · rw [if_pos c11] at H
            have LMc11 := Aside0.mk c11
            clear c11
            obtain ⟨y27006, hy27006⟩ : ∃ y_ : List (S57), y_ = (x4_1 ++ [(⟨x5_1, a0_0, wrap64 (a0_0 + a0_2)⟩ : S57)]) := ⟨_, rfl⟩
            replace H : (spec_BoxRegion.l0 k1 y27006 (wrap64 (x5_1 + 1)) a0_0 a0_1 a0_2 a0_3) = some (r1, r2) := by first | (rw [hy27006]; with_reducible exact H) | (have H2_ := (Option.bind_some _ _).symm.trans H; rw [hy27006]; with_reducible exact H2_) | (have H2_ := (Option.bind_some _ _).symm.trans H; with_reducible exact H2_) | with_reducible exact H | (rw [hy27006]; exact H) | exact H
            have Ny27006 := Aside0.mk hy27006
            clear hy27006
            have H' := Aside0.mk H
            clear H
            have hcz12_0 : wr.cell? ⟨gb27001, 0, none⟩ = some (.int .i64 a0_0) := (blk_cell BK27001.out 0).trans rfl
            have hcz12_1 : wr.cell? ⟨gb27001, 1, none⟩ = some (.int .i64 a0_1) := (blk_cell BK27001.out 1).trans rfl
            have hcz12_2 : wr.cell? ⟨gb27001, 2, none⟩ = some (.int .i64 a0_2) := (blk_cell BK27001.out 2).trans rfl
            have hcz12_3 : wr.cell? ⟨gb27001, 3, none⟩ = some (.int .i64 a0_3) := (blk_cell BK27001.out 3).trans rfl
            have hfz12_0 := blk_frozen BK27001.out 0
            have hfz12_1 := blk_frozen BK27001.out 1
            have hfz12_2 := blk_frozen BK27001.out 2
            have hfz12_3 := blk_frozen BK27001.out 3
            go_wp2_with (first | ((with_reducible refine gate_builtin (b := .append) (xs := #[.tmp 22, .tmp 32]) rfl ?_); at_builtin; refine Kd.R_append k57 (w0 := w) w.heap.size rfl (.tmp 22) (.tmp 32) 25 57 (.agg #[(.int .i64 0), (.int .i64 0), (.int .i64 0)]) 24 rfl Try.underlying25 info57 rfl (by decide) (by omega) u4 x4_1 (⟨x5_1, a0_0, wrap64 (a0_0 + a0_2)⟩ : S57) [.int .i64 x5_1, .int .i64 a0_0, .int .i64 (wrap64 (a0_0 + a0_2))] (fun _ => True) (fun _ => False) rfl rfl ?aP (fun _ hk => hk.elim) ?aF ?aO ?aB ?aS ?aL ?_; (case aP => exact k57_mkM _ _ _ (⟨x5_1, a0_0, wrap64 (a0_0 + a0_2)⟩ : S57)); (case aB => exact (by repeat (first | (with_reducible first | exact HB.out | apply below_alloc | apply pw_below_drewN | apply below_drew1 | refine below_set ?_ GE27001.out) | exact HB.out))); (case aF => exact (fun _ _ => trivial)); (case aO => exact (by (with_reducible repeat (first | apply Kd.R_alloc | apply Kd.R_drewN | apply Kd.R_drew)); exact HO_4.out)); (case aS => exact (below_size (by repeat (first | (with_reducible first | exact HB.out | apply below_alloc | apply pw_below_drewN | apply below_drew1 | refine below_set ?_ GE27001.out) | exact HB.out)))); (case aL => have := LMc11.out; omega); intro v27007 w13 ho hb hg hat; rw [← Ny27006.out] at ho; have n0_ := Aside0.mk (blk_grown (g := gb27001) (o := .cells #[.int .i64 a0_0, .int .i64 a0_1, .int .i64 a0_2, .int .i64 a0_3] 36 (0, 0)) (by (with_reducible repeat (first | refine blk_drewN ?_ _ | refine blk_drew ?_ | refine blk_alloc ?_ _)); exact BK27001.out) hg (Kd.R_ne HO_4.out BK27001.out (by decide))); have n1_ := Aside0.mk (hb); have n2_ := Aside0.mk (ho); clear BK27001; clear HB; clear HO_4; have BK27001 := n0_; have HB := n1_; have HO27008 := n2_; clear n0_ n1_ n2_; clear ho hb hg hat))
            go_roundg k1
            case measure => have := HK1.out; omega
            case rel => exact ⟨(y27006), (wrap64 (x5_1 + 1)), (by first | rfl | (simp; done) | (simp [*]; done)), H', ⟨by have := HK1.out; omega⟩, ⟨by (with_reducible repeat (first | apply Kd.R_alloc | apply Kd.R_drewN | apply Kd.R_drew)); exact HO27008.out⟩, ⟨by (with_reducible repeat (first | refine blk_drewN ?_ _ | refine blk_drew ?_ | refine blk_alloc ?_ _)); exact BK27001.out⟩, ⟨by repeat (first | (with_reducible first | exact HB.out | apply below_alloc | apply pw_below_drewN | apply below_drew1 | refine below_set ?_ GE27001.out) | exact HB.out)⟩⟩
          · rw [if_neg c11] at H
            exact absurd H (by simp)
        · rw [if_neg c10] at H
          have c10b0 : decide (x5_1 < (wrap64 (a0_1 + a0_3))) = false := decide_eq_false c10
          clear c10
          simp only [Option.some.injEq, Prod.mk.injEq] at H
          obtain ⟨rfl, rfl⟩ := H
          have hcz14_0 : wr.cell? ⟨gb27001, 0, none⟩ = some (.int .i64 a0_0) := (blk_cell BK27001.out 0).trans rfl
          have hcz14_1 : wr.cell? ⟨gb27001, 1, none⟩ = some (.int .i64 a0_1) := (blk_cell BK27001.out 1).trans rfl
          have hcz14_2 : wr.cell? ⟨gb27001, 2, none⟩ = some (.int .i64 a0_2) := (blk_cell BK27001.out 2).trans rfl
          have hcz14_3 : wr.cell? ⟨gb27001, 3, none⟩ = some (.int .i64 a0_3) := (blk_cell BK27001.out 3).trans rfl
          have hfz14_0 := blk_frozen BK27001.out 0
          have hfz14_1 := blk_frozen BK27001.out 1
          have hfz14_2 := blk_frozen BK27001.out 2
          have hfz14_3 := blk_frozen BK27001.out 3
          go_wp2
          go_ret2
          exact ⟨_, by first | rfl | (simp [errW_none, errW_some] <;> rfl) | (simp [*, errW_none, errW_some] <;> rfl), by (with_reducible repeat (first | apply Kd.R_alloc | apply Kd.R_drewN | apply Kd.R_drew)); exact HO_4.out, by repeat (first | (with_reducible first | exact HB.out | apply below_alloc | apply pw_below_drewN | apply below_drew1 | refine below_set ?_ GE27001.out) | exact HB.out)⟩
  · replace c3 := Bool.eq_false_iff.mpr c3
    subst c3
    have H1 : (some (([] : List (S57)), false)) = some (r1, r2) := by rw [if_neg (show ¬ (false = true) by decide)] at H; exact H
    clear H
    have H := H1
    clear H1
    simp only [Option.some.injEq, Prod.mk.injEq] at H
    obtain ⟨rfl, rfl⟩ := H
    go_enter Try.func26, Try.ntmps26
    go_wp2_with (first | ((with_reducible refine gate_dst (N := 1) rfl ?_); refine box_event ?hg (N := 1) ?hd (cs := #[.int .i64 a0_0, .int .i64 a0_1, .int .i64 a0_2, .int .i64 a0_3]) (t := 36) ?hr ?_; (case hd => rfl); (case hg => rfl); (case hr => first | (go_simp; done) | (go_simp; rfl)); intro gb27001 hg w15 hbox hb; have n0_ := Aside0.mk (below_step (by repeat (first | (with_reducible first | exact HB.out | apply below_alloc | apply pw_below_drewN | apply below_drew1) | exact HB.out)) hb); have n1_ := Aside0.mk (hbox); have n2_ := Aside0.mk ((by rw [hg]; exact (below_size (by repeat (first | (with_reducible first | exact HB.out | apply below_alloc | apply pw_below_drewN | apply below_drew1) | exact HB.out))) : w.heap.size ≤ gb27001)); have n3_ := Aside0.mk ((by rw [hg]; exact (below_size (by repeat (first | (with_reducible first | exact HB.out | apply below_alloc | apply pw_below_drewN | apply below_drew1) | exact HB.out))) : w.heap.size ≤ gb27001)); clear HB; have HB := n0_; have BK27001 := n1_; have GW27001 := n2_; have GE27001 := n3_; clear n0_ n1_ n2_ n3_; clear hb hbox hg) | ((with_reducible refine gate_dst (N := 6) rfl ?_); refine Kd.R_lit k57 _ 57 ?hg (N := 6) ?hd (xs := ([] : List (S57))) (inner := []) (ok := fun _ => True) (okp := fun _ => True) ?hr ?hp (fun _ hk => hk) trivial (Below.refl _ _) (Nat.le_refl _) (by simp) ?_; (case hd => rfl); (case hg => rfl); (case hr => first | (go_simp; done) | (go_simp; rfl)); (case hp => exact (Reps.none _ _)); intro v27003 w16 ho17 hb hg_ hnew_; clear hg_ hnew_; (first | rw [← Ny27002.out] at ho17 | (simp only [Int.reduceToNat] at ho17; rw [← Ny27002.out] at ho17)); have n0_ := Aside0.mk (Kd.R_lower ho17 (below_size (by repeat (first | (with_reducible first | exact HB.out | apply below_alloc | apply pw_below_drewN | apply below_drew1 | refine below_set ?_ GE27001.out) | exact HB.out)))); have n1_ := Aside0.mk (blk_below (g := gb27001) (o := .cells #[.int .i64 a0_0, .int .i64 a0_1, .int .i64 a0_2, .int .i64 a0_3] 36 (0, 0)) (by (with_reducible repeat (first | refine blk_drewN ?_ _ | refine blk_drew ?_ | refine blk_alloc ?_ _)); exact BK27001.out) hb); have n2_ := Aside0.mk (below_step (by repeat (first | (with_reducible first | exact HB.out | apply below_alloc | apply pw_below_drewN | apply below_drew1 | refine below_set ?_ GE27001.out) | exact HB.out)) hb); clear BK27001; clear HB; have HO27004 := n0_; have BK27001 := n1_; have HB := n2_; clear n0_ n1_ n2_; clear hb ho17; have hcz18_0 : w16.cell? ⟨gb27001, 0, none⟩ = some (.int .i64 a0_0) := (blk_cell BK27001.out 0).trans rfl; have hcz18_1 : w16.cell? ⟨gb27001, 1, none⟩ = some (.int .i64 a0_1) := (blk_cell BK27001.out 1).trans rfl; have hcz18_2 : w16.cell? ⟨gb27001, 2, none⟩ = some (.int .i64 a0_2) := (blk_cell BK27001.out 2).trans rfl; have hcz18_3 : w16.cell? ⟨gb27001, 3, none⟩ = some (.int .i64 a0_3) := (blk_cell BK27001.out 3).trans rfl; have hfz18_0 := blk_frozen BK27001.out 0; have hfz18_1 := blk_frozen BK27001.out 1; have hfz18_2 := blk_frozen BK27001.out 2; have hfz18_3 := blk_frozen BK27001.out 3) | ((with_reducible refine gate_callee (f := 61) rfl ?_); refine goesL_ (some 9) rfl rfl Try.func61 (by kernel_rfl) rfl #[.agg #[.int .i64 16, .int .i64 16, .int .i64 0, .slice none 0 0], .agg #[.int .i64 a0_0, .int .i64 a0_1, .int .i64 a0_2, .int .i64 a0_3]] rfl (by (try simp only [List.map_toArray, List.map_cons, List.map_nil]); first | done | rfl | (simp only [List.length_drop, List.length_take]; rfl)) ?_; (refine (spec_validBox.calls 16 16 0 _ _ ([] : List Int) a0_0 a0_1 a0_2 a0_3 false _ ?side1 ?side2 A2.out).mono ?_); (case side1 => exact Kd.C_nil _ _); (case side2 => exact Nat.le_refl _); rintro e w19 ⟨rfl, hb⟩; refine ⟨_, rfl, ?_⟩; have n0_ := Aside0.mk (Kd.R_below (by (with_reducible repeat (first | apply Kd.R_alloc | apply Kd.R_drewN | apply Kd.R_drew)); exact HO27004.out) hb); have n1_ := Aside0.mk (blk_below (g := gb27001) (o := .cells #[.int .i64 a0_0, .int .i64 a0_1, .int .i64 a0_2, .int .i64 a0_3] 36 (0, 0)) (by (with_reducible repeat (first | refine blk_drewN ?_ _ | refine blk_drew ?_ | refine blk_alloc ?_ _)); exact BK27001.out) hb); have n2_ := Aside0.mk (below_step (by repeat (first | (with_reducible first | exact HB.out | apply below_alloc | apply pw_below_drewN | apply below_drew1 | refine below_set ?_ GE27001.out) | exact HB.out)) hb); clear HO27004; clear BK27001; clear HB; have HO27004 := n0_; have BK27001 := n1_; have HB := n2_; clear n0_ n1_ n2_; (try clear hb); (try clear hb2); (try clear hk); (try clear hi)))
    go_ret2
    exact ⟨_, by first | rfl | (simp [errW_none, errW_some] <;> rfl) | (simp [*, errW_none, errW_some] <;> rfl), by first | exact Kd.R_nil _ _ _ _ _ | exact Kd.N_nil _ _ _ _ _ | exact Kd.V_nil _ _ _ _ _ | exact Kd.Q_nil _ _ _ _ _ | exact Kd.S_nil _ _ _ _ _, by repeat (first | (with_reducible first | exact HB.out | apply below_alloc | apply pw_below_drewN | apply below_drew1 | refine below_set ?_ GE27001.out) | exact HB.out)⟩

end Go.Proofs.Ytfgeickfheogoaa.Q

/- The region of a box, as the program and the reference have it. -/
namespace Go.Proofs.Ytfgeickfheogoaa.Pure
open Go.RowKit Go.Proofs.Ytfgeickfheogoaa.Q Go.Proofs.YtfgeickfheogoaaW.PrintWords Go.Proofs.YtfgeickfheogoaaW.PrintLast Go.Proofs.YtfgeickfheogoaaW.PrintMore
set_option linter.unusedVariables false
set_option linter.unusedSimpArgs false

theorem scanRow_len (g : Nat → Bool) (y : Nat) : ∀ d x, 17 ≤ x + d → (scanRow g y x).length ≤ 17 - x := by
  intro d
  induction d with
  | zero => intro x hx; rw [scan_end g y x (by omega)]; simp
  | succ d ih =>
    intro x hx
    by_cases h16 : x < 16
    · cases hv : g (y * 16 + x) with
      | true =>
        have := endAt_ge g y (16 - x) x
        rw [scan_true g y x h16 hv, List.length_cons]
        have := ih (endAt g y (16 - x) x + 1) (by omega)
        omega
      | false =>
        rw [scan_false g y x h16 hv]
        have := ih (x + 1) (by omega)
        omega
    · rw [scan_end g y x (by omega)]; simp
theorem runsTo_len (g : Nat → Bool) (n : Nat) : (runsTo g n).length ≤ 17 * n := by
  induction n with
  | zero => simp [runsTo]
  | succ n ih =>
    rw [runsTo_succ, List.length_append]
    have := scanRow_len g n 17 0 (by omega)
    omega
theorem runsL_len (g : Nat → Bool) : (runsL g).length ≤ 272 := runsTo_len g 16
theorem scan_none (g : Nat → Bool) (y : Nat) (h : ∀ x, x < 16 → g (y * 16 + x) = false) : scanRow g y 0 = [] := by
  have : ∀ d x, 16 ≤ x + d → scanRow g y x = [] := by
    intro d
    induction d with
    | zero => intro x hx; exact scan_end g y x (by omega)
    | succ d ih =>
      intro x hx
      by_cases h16 : x < 16
      · rw [scan_false g y x h16 (h x h16)]; exact ih (x + 1) (by omega)
      · exact scan_end g y x (by omega)
  exact this 16 0 (by omega)
theorem scan_seg (g : Nat → Bool) (y a b : Nat) (hab : a < b) (hb : b ≤ 16) (h : ∀ x, x < 16 → g (y * 16 + x) = (decide (a ≤ x) && decide (x < b))) : scanRow g y 0 = [⟨(y : Int), (a : Int), (b : Int)⟩] := by
  have e1 : ∀ d x, x + d = a → scanRow g y x = scanRow g y a := by
    intro d
    induction d with
    | zero => intro x hx; rw [show x = a by omega]
    | succ d ih =>
      intro x hx
      rw [scan_false g y x (by omega) (by rw [h x (by omega)]; simp; omega)]
      exact ih (x + 1) (by omega)
  have e2 : ∀ d x, x + d = b → a ≤ x → endAt g y (16 - x) x = b := by
    intro d
    induction d with
    | zero =>
      intro x hx ha
      rw [show x = b by omega]
      apply endAt_stop
      by_cases hb' : b < 16
      · right; rw [h b hb']; simp
      · left; omega
    | succ d ih =>
      intro x hx ha
      rw [endAt_step g y x (by omega) (by rw [h x (by omega)]; simp; omega)]
      exact ih (x + 1) (by omega) (by omega)
  have e3 : ∀ d x, 16 ≤ x + d → b ≤ x → scanRow g y x = [] := by
    intro d
    induction d with
    | zero => intro x hx _; exact scan_end g y x (by omega)
    | succ d ih =>
      intro x hx hbx
      by_cases h16 : x < 16
      · rw [scan_false g y x h16 (by rw [h x h16]; simp; omega)]
        exact ih (x + 1) (by omega) (by omega)
      · exact scan_end g y x (by omega)
  rw [e1 a 0 (by omega), scan_true g y a (by omega) (by rw [h a (by omega)]; simp; omega), e2 (b - a) a (by omega) (Nat.le_refl _), e3 16 (b + 1) (by omega) (by omega)]
/-- the runs of a box: one a row -/
def boxRuns (b0 b1 b2 b3 : Int) (n : Nat) : List Run := (List.range n).map fun (i : Nat) => ⟨b1 + (i : Int), b0, b0 + b2⟩
theorem boxRuns_succ (b0 b1 b2 b3 : Int) (n : Nat) : boxRuns b0 b1 b2 b3 (n + 1) = boxRuns b0 b1 b2 b3 n ++ [⟨b1 + (n : Int), b0, b0 + b2⟩] := by simp [boxRuns, List.range_succ]
theorem boxOk_iff (b0 b1 b2 b3 : Int) : boxOk b0 b1 b2 b3 = true ↔ 0 ≤ b0 ∧ b0 < 16 ∧ 0 ≤ b1 ∧ b1 < 16 ∧ 1 ≤ b2 ∧ b2 ≤ 16 - b0 ∧ 1 ≤ b3 ∧ b3 ≤ 16 - b1 := by simp [boxOk]
theorem runs_box (b0 b1 b2 b3 : Int) (h : boxOk b0 b1 b2 b3 = true) : runsL (gso (inBox b0 b1 b2 b3) 256) = boxRuns b0 b1 b2 b3 b3.toNat := by
  have h := (boxOk_iff b0 b1 b2 b3).1 h
  have cell : ∀ y x, y < 16 → x < 16 → gso (inBox b0 b1 b2 b3) 256 (y * 16 + x) = inBox b0 b1 b2 b3 x y := by
    intro y x hy hx
    unfold gso
    rw [show (y * 16 + x) % 16 = x by omega, show (y * 16 + x) / 16 = y by omega, decide_eq_true (by omega), Bool.true_and]
  have key : ∀ n : Nat, n ≤ 16 → runsTo (gso (inBox b0 b1 b2 b3) 256) n = boxRuns b0 b1 b2 b3 (min (n : Int) (b1 + b3) - b1).toNat := by
    intro n
    induction n with
    | zero => intro _; rw [show (min ((0 : Nat) : Int) (b1 + b3) - b1).toNat = 0 by omega]; simp [runsTo, boxRuns]
    | succ n ih =>
      intro hn
      rw [runsTo_succ, ih (by omega)]
      by_cases c1 : (n : Int) < b1
      · rw [scan_none _ n (fun x hx => by rw [cell n x (by omega) hx]; unfold inBox; rw [decide_eq_false (show ¬ b1 ≤ (n : Int) by omega), Bool.and_false, Bool.false_and]), List.append_nil]
        congr 1; omega
      · by_cases c2 : (n : Int) < b1 + b3
        · rw [scan_seg _ n b0.toNat (b0 + b2).toNat (by omega) (by omega) (fun x hx => by
            rw [cell n x (by omega) hx]; unfold inBox
            rw [decide_eq_true (show b1 ≤ (n : Int) by omega), decide_eq_true c2, Bool.and_true, Bool.and_true]
            congr 1
            · rw [decide_eq_decide]; omega
            · rw [decide_eq_decide]; omega)]
          rw [show (min ((n + 1 : Nat) : Int) (b1 + b3) - b1).toNat = (min (n : Int) (b1 + b3) - b1).toNat + 1 by omega, boxRuns_succ]
          congr 2
          rw [show b1 + (((min (n : Int) (b1 + b3) - b1).toNat : Nat) : Int) = (n : Int) by omega, show ((b0.toNat : Nat) : Int) = b0 by omega, show (((b0 + b2).toNat : Nat) : Int) = b0 + b2 by omega]
        · rw [scan_none _ n (fun x hx => by rw [cell n x (by omega) hx]; unfold inBox; rw [decide_eq_false c2, Bool.and_false]), List.append_nil]
          congr 1; omega
  have := key 16 (Nat.le_refl _)
  unfold runsL
  rw [this]
  congr 1; omega
/-- what both answer -/
def boxV (b0 b1 b2 b3 : Int) : List Run × Bool := if boxOk b0 b1 b2 b3 = true then (boxRuns b0 b1 b2 b3 b3.toNat, true) else ([], false)
theorem impl_BoxRegion_eq (b0 b1 b2 b3 : Int) : impl_BoxRegion.f b0 b1 b2 b3 = some (boxV b0 b1 b2 b3) := by
  unfold impl_BoxRegion.f boxV
  by_cases h : boxOk b0 b1 b2 b3 = true
  · rw [if_pos h, if_pos h, runs_box b0 b1 b2 b3 h]
  · rw [if_neg h, if_neg h]
theorem boxV_len (b0 b1 b2 b3 : Int) : (boxV b0 b1 b2 b3).1.length ≤ 16 := by
  unfold boxV
  by_cases h : boxOk b0 b1 b2 b3 = true
  · have := (boxOk_iff b0 b1 b2 b3).1 h
    rw [if_pos h]
    show (boxRuns b0 b1 b2 b3 b3.toNat).length ≤ 16
    unfold boxRuns
    rw [List.length_map, List.length_range]
    omega
  · rw [if_neg h]; simp
theorem spec_validBox_eq (b0 b1 b2 b3 : Int) : spec_validBox.f 16 16 0 ([] : List Int) b0 b1 b2 b3 = some (boxOk b0 b1 b2 b3) := by
  unfold spec_validBox.f
  have e16 : wrap64 (16 - 1) = 15 := by rw [w64 (x := 16 - 1) (by omega) (by omega)]; rfl
  rw [e16, inRange_eq' b0 0 15]
  simp only [Option.bind_some]
  by_cases c1 : 0 ≤ b0 ∧ b0 ≤ 15
  · rw [if_pos (by simpa using c1), inRange_eq' b1 0 15]
    simp only [Option.bind_some]
    by_cases c2 : 0 ≤ b1 ∧ b1 ≤ 15
    · rw [if_pos (by simpa using c2), w64 (x := 16 - b0) (by omega) (by omega), w64 (x := 16 - b1) (by omega) (by omega), inRange_eq' b2 1 (16 - b0)]
      simp only [Option.bind_some]
      by_cases c3 : 1 ≤ b2 ∧ b2 ≤ 16 - b0
      · rw [if_pos (by simpa using c3), inRange_eq' b3 1 (16 - b1)]
        simp only [Option.bind_some]
        congr 1
        unfold boxOk
        rw [← Bool.decide_and, decide_eq_decide]
        omega
      · rw [if_neg (by simpa using c3)]
        congr 1; symm; unfold boxOk; rw [decide_eq_false_iff_not]; omega
    · rw [if_neg (by simpa using c2)]
      congr 1; symm; unfold boxOk; rw [decide_eq_false_iff_not]; omega
  · rw [if_neg (by simpa using c1)]
    congr 1; symm; unfold boxOk; rw [decide_eq_false_iff_not]; omega
theorem spec_BoxRegion_ev (b0 b1 b2 b3 : Int) : Ev (fun k => spec_BoxRegion.f k b0 b1 b2 b3) (boxV b0 b1 b2 b3) := by
  unfold spec_BoxRegion.f boxV
  refine ev_now (spec_validBox_eq b0 b1 b2 b3) ?_
  by_cases h : boxOk b0 b1 b2 b3 = true
  · have h' := (boxOk_iff b0 b1 b2 b3).1 h
    refine ev_pos h ?_
    rw [if_pos h]
    have key := ev_up b3.toNat (fun k i (s : List Run) => spec_BoxRegion.l0 k s (b1 + (i : Int)) b0 b1 b2 b3) (fun i s => s = boxRuns b0 b1 b2 b3 i) (fun _ _ => (boxRuns b0 b1 b2 b3 b3.toNat, true))
      (by
        intro i s hi hs
        right
        refine ⟨boxRuns b0 b1 b2 b3 (i + 1), fun k => ?_, rfl, rfl⟩
        simp only [spec_BoxRegion.l0]
        have hlen : s.length = i := by rw [hs]; simp [boxRuns]
        rw [w64 (x := b1 + b3) (by omega) (by omega), w64 (x := b0 + b2) (by omega) (by omega), w64 (x := b1 + (i : Int) + 1) (by omega) (by omega), if_pos (by omega), if_pos (by omega), boxRuns_succ, hs]
        congr 1; omega)
      (by
        intro s hs
        refine Ev.step (f := fun _ => some (s, true)) (fun k => ?_) (ev_const (by rw [hs]))
        simp only [spec_BoxRegion.l0]
        rw [w64 (x := b1 + b3) (by omega) (by omega), if_neg (by omega)])
      b3.toNat 0 [] (by omega) (by simp [boxRuns])
    simpa using key
  · refine ev_neg h ?_
    rw [if_neg h]
    exact ev_const rfl
end Go.Proofs.Ytfgeickfheogoaa.Pure

/- A region at another place, as the program and the reference have it. -/
namespace Go.Proofs.Ytfgeickfheogoaa.Pure
open Go.RowKit Go.Proofs.Ytfgeickfheogoaa.Q Go.Proofs.YtfgeickfheogoaaW.PrintWords Go.Proofs.YtfgeickfheogoaaW.PrintLast Go.Proofs.YtfgeickfheogoaaW.PrintMore
set_option linter.unusedVariables false
set_option linter.unusedSimpArgs false

def shiftV (l : List Run) (x y : Int) : List Run := if shiftOk l x y = true then runsL (gso (shiftG l x y) 256) else []
theorem impl_ShiftRegion_eq (l : List Run) (x y : Int) : impl_ShiftRegion.f l x y = some (shiftV l x y) := rfl
theorem shiftV_len (l : List Run) (x y : Int) : (shiftV l x y).length ≤ 272 := by
  unfold shiftV
  split
  · exact runsL_len _
  · simp
/-- what has been moved when the pixels before n have been: pixel q comes from pixel number 'from' -/
def moved (g : Nat → Bool) (x y : Int) (n : Nat) (q : Nat) : Bool :=
  hasP g (((q % 16 : Nat) : Int) - x) (((q / 16 : Nat) : Int) - y) && decide ((((q / 16 : Nat) : Int) - y).toNat * 16 + (((q % 16 : Nat) : Int) - x).toNat < n)
theorem moved_no (g : Nat → Bool) (x y : Int) (n q : Nat) (hn : n < 256) (hq : q < 256) (h : g n = false ∨ ¬ (((n % 16 : Nat) : Int) + x = ((q % 16 : Nat) : Int) ∧ ((n / 16 : Nat) : Int) + y = ((q / 16 : Nat) : Int))) : moved g x y (n + 1) q = moved g x y n q := by
  unfold moved
  by_cases c : hasP g (((q % 16 : Nat) : Int) - x) (((q / 16 : Nat) : Int) - y) = true
  · rw [c, Bool.true_and, Bool.true_and, decide_eq_decide]
    have h' := (hasP_iff _ _ _).1 c
    have : (((q / 16 : Nat) : Int) - y).toNat * 16 + (((q % 16 : Nat) : Int) - x).toNat ≠ n := by
      intro e
      rcases h with h | h
      · rw [e, h] at h'; exact absurd h'.2.2.2.2 (by simp)
      · apply h; omega
    omega
  · rw [show hasP g (((q % 16 : Nat) : Int) - x) (((q / 16 : Nat) : Int) - y) = false by simpa using c, Bool.false_and, Bool.false_and]
theorem moved_yes (g : Nat → Bool) (x y : Int) (n q : Nat) (hn : n < 256) (hq : q < 256) (hg : g n = true) (h1 : ((n % 16 : Nat) : Int) + x = ((q % 16 : Nat) : Int)) (h2 : ((n / 16 : Nat) : Int) + y = ((q / 16 : Nat) : Int)) : moved g x y (n + 1) q = true := by
  unfold moved
  rw [show ((q % 16 : Nat) : Int) - x = ((n % 16 : Nat) : Int) by omega, show ((q / 16 : Nat) : Int) - y = ((n / 16 : Nat) : Int) by omega, hasP_nat g n hn, hg, Bool.true_and]
  simp; omega
theorem spec_ShiftRegion_ev (l : List Run) (x y : Int) (hl : l.length ≤ 1000000000) : Ev (fun k => spec_ShiftRegion.f k l x y) (shiftV l x y) := by
  unfold spec_ShiftRegion.f
  refine ev_pos (by decide) (ev_now rfl ?_)
  refine ev_bind (ev_of (2 * l.length + 1) (fun k hk => spec_validRuns_eq l (by omega) k hk)) ?_
  have no : shiftOk l x y = false → ∀ s, Ev (fun k => spec_ShiftRegion.j0 k l x y s true) (shiftV l x y) := by
    intro h s
    unfold shiftV
    rw [h, if_neg (by simp)]
    refine Ev.step (f := fun _ => some ([] : List Run)) (fun k => ?_) (Ev.now _)
    simp only [spec_ShiftRegion.j0]
    rw [if_pos trivial]
  by_cases hv : validR l = true
  · refine ev_pos hv (ev_now (inRange_eq' x (-16) 16) ?_)
    by_cases c1 : -16 ≤ x ∧ x ≤ 16
    · refine ev_pos (by simpa using c1) (ev_now (inRange_eq' y (-16) 16) ?_)
      by_cases c2 : -16 ≤ y ∧ y ≤ 16
      · have e : (!(decide (-16 ≤ y) && decide (y ≤ 16))) = false := by simp [c2.1, c2.2]
        rw [e]
        refine Ev.step (f := fun k => (spec_gridOf.f k l).bind fun t => spec_ShiftRegion.l0 k x y (List.replicate 256 false) t 0) (fun k => by simp only [spec_ShiftRegion.j0]; rw [if_neg (by simp)]) ?_
        refine ev_bind (spec_gridOf_ev l hl (valid_ranges hv)) ?_
        have ho : shiftOk l x y = true := by unfold shiftOk; rw [hv, decide_eq_true ⟨c1.1, c1.2, c2.1, c2.2⟩]; rfl
        have hV : shiftV l x y = runsL (gso (shiftG l x y) 256) := by unfold shiftV; rw [if_pos ho]
        rw [hV, tab_false]
        generalize hgr : gridF l = g
        have key := ev_up 256 (fun k n (s : List Bool) => spec_ShiftRegion.l0 k x y s (tab g) (n : Int)) (fun n s => s = tab (moved g x y n)) (fun _ _ => runsL (gso (shiftG l x y) 256))
          (by
            intro n s hn hs
            right
            have hstay : (g n = false ∨ ¬ (0 ≤ ((n % 16 : Nat) : Int) + x ∧ ((n % 16 : Nat) : Int) + x ≤ 15 ∧ 0 ≤ ((n / 16 : Nat) : Int) + y ∧ ((n / 16 : Nat) : Int) + y ≤ 15)) → s = tab (moved g x y (n + 1)) := by
              intro h
              rw [hs]
              refine tab_congr (fun q hq => (moved_no g x y n q hn hq ?_).symm)
              rcases h with h | h
              · exact .inl h
              · right; omega
            simp only [spec_ShiftRegion.l0]
            have hsl : s.length = 256 := by rw [hs, tab_length]
            have w1 : wrap64 (Int.tmod (n : Int) 16 + x) = ((n % 16 : Nat) : Int) + x := by rw [tmod16]; exact w64 (by omega) (by omega)
            have w2 : wrap64 (wrap64 (Int.tdiv (n : Int) 16) + y) = ((n / 16 : Nat) : Int) + y := by rw [tdiv16 n hn]; exact w64 (by omega) (by omega)
            have w3 : wrap64 (wrap64 ((((n / 16 : Nat) : Int) + y) * 16) + (((n % 16 : Nat) : Int) + x)) = (((n / 16 : Nat) : Int) + y) * 16 + (((n % 16 : Nat) : Int) + x) := by
              rw [w64 (x := (((n / 16 : Nat) : Int) + y) * 16) (by omega) (by omega)]; exact w64 (by omega) (by omega)
            have f1 : (n : Int) < ((tab g).length : Int) := by rw [tab_length]; omega
            have f2 : 0 ≤ (n : Int) := by omega
            simp only [w1, w2, w3, inRange_eq', Option.bind_some, f1, f2, if_true, tab_get g n hn, w64n n (by omega)]
            clear f1 f2
            cases hg : g n with
            | false => exact ⟨s, fun k => by rw [if_neg (by simp)], hstay (.inl hg), trivial⟩
            | true =>
              by_cases d1 : 0 ≤ ((n % 16 : Nat) : Int) + x ∧ ((n % 16 : Nat) : Int) + x ≤ 15
              · by_cases d2 : 0 ≤ ((n / 16 : Nat) : Int) + y ∧ ((n / 16 : Nat) : Int) + y ≤ 15
                · obtain ⟨cx, hcx⟩ := Int.eq_ofNat_of_zero_le d1.1
                  obtain ⟨cy, hcy⟩ := Int.eq_ofNat_of_zero_le d2.1
                  refine ⟨s.set (cy * 16 + cx) true, fun k => ?_, ?_, trivial⟩
                  · rw [if_pos rfl, if_pos (by simpa using d1), if_pos (by simpa using d2), if_pos (by omega), if_pos (by omega)]
                    rw [hcx, hcy, show ((cy : Int) * 16 + (cx : Int)).toNat = cy * 16 + cx by omega]
                  · rw [hs, tab_set]
                    refine tab_congr (fun q hq => ?_)
                    by_cases e : q = cy * 16 + cx
                    · rw [if_pos e]
                      exact (moved_yes g x y n q hn hq hg (by omega) (by omega)).symm
                    · rw [if_neg e]
                      exact (moved_no g x y n q hn hq (.inr (by omega))).symm
                · exact ⟨s, fun k => by rw [if_pos rfl, if_pos (by simpa using d1), if_neg (by simpa using d2)], hstay (.inr (by omega)), trivial⟩
              · exact ⟨s, fun k => by rw [if_pos rfl, if_neg (by simpa using d1)], hstay (.inr (by omega)), trivial⟩)
          (by
            intro s hs
            have hf : s = tab (gso (shiftG l x y) 256) := by
              rw [hs]
              refine tab_congr (fun q hq => ?_)
              rw [gso_at _ _ hq]
              unfold moved shiftG
              rw [hgr]
              by_cases c : hasP g (((q % 16 : Nat) : Int) - x) (((q / 16 : Nat) : Int) - y) = true
              · have h' := (hasP_iff _ _ _).1 c
                rw [c, Bool.true_and]
                exact decide_eq_true (by omega)
              · rw [show hasP g (((q % 16 : Nat) : Int) - x) (((q / 16 : Nat) : Int) - y) = false by simpa using c, Bool.false_and]
            rw [hf]
            refine Ev.step (f := fun k => (spec_runsOf.f k (tab (gso (shiftG l x y) 256))).bind fun t => some t) (fun k => ?_) (ev_bind (spec_runsOf_ev _) (Ev.now _))
            simp only [spec_ShiftRegion.l0]
            rw [if_neg (by rw [tab_length]; omega)])
          256 0 (tab fun _ => false) (by omega) (tab_congr (fun q hq => by
            show false = (_ && _)
            rw [decide_eq_false (by omega), Bool.and_false]))
        exact key
      · have e : (!(decide (-16 ≤ y) && decide (y ≤ 16))) = true := by
          rw [← Bool.decide_and, decide_eq_false c2]; rfl
        rw [e]
        exact no (by unfold shiftOk; rw [decide_eq_false (by omega), Bool.and_false]) _
    · refine ev_neg (by simpa using c1) (no (by unfold shiftOk; rw [decide_eq_false (by omega), Bool.and_false]) _)
  · refine ev_neg hv (no ?_ _)
    unfold shiftOk
    rw [show validR l = false by simpa using hv, Bool.false_and]
end Go.Proofs.Ytfgeickfheogoaa.Pure

/- Copies of runs: they are the runs. -/
namespace Go.Proofs.Ytfgeickfheogoaa.Pure
open Go.RowKit Go.Proofs.Ytfgeickfheogoaa.Q Go.Proofs.YtfgeickfheogoaaW.PrintWords Go.Proofs.YtfgeickfheogoaaW.PrintLast Go.Proofs.YtfgeickfheogoaaW.PrintMore
set_option linter.unusedVariables false
set_option linter.unusedSimpArgs false

abbrev LRun := S59
theorem rdLRun (l : List LRun) (i : Nat) (h : i < l.length) : rd_T59 l (i : Int) = l[i] := by simp [rd_T59, h]
/-! copies -/
def cRun (r : LRun) : Run := ⟨r.f0, r.f1, r.f2⟩
theorem toRunS_eq (l : List LRun) (hl : l.length ≤ 2000000) (k : Nat) (hk : l.length < k) : laws_toRunS.f k l = some (l.map cRun) := by
  have h := loop_up 0 l.length (fun k i s => laws_toRunS.l0 k l s (i : Int)) (fun i s => s.length = l.length) (fun i s => s.take i ++ (l.drop i).map cRun)
    (by
      intro i s k hi hs _
      refine .inr ⟨s.set i (cRun l[i]), ?_, by simpa using hs, ?_⟩
      · simp only [laws_toRunS.l0]
        rw [if_pos (by omega), if_pos (by omega), rdLRun l i hi]
        simp only [laws_toRun.f, Option.bind_some]
        rw [if_pos (by omega), w64n i (by omega)]; rfl
      · skip
        rw [take_set s i _ (by omega), List.drop_eq_getElem_cons hi, List.map_cons, List.append_assoc]; rfl)
    (by
      intro s k hs _
      simp only [laws_toRunS.l0]
      rw [if_neg (by omega), List.drop_length]; simp [← hs])
    l.length 0 (List.replicate l.length z57) k (by omega) (by simp) (by omega)
  unfold laws_toRunS.f
  rw [if_pos (by omega), if_pos (by omega)]
  simpa using h
theorem eqRunS_refl (l : List Run) (hl : l.length ≤ 1000000000000) (k : Nat) (hk : l.length < k) : laws_eqRunS.f k l l = some true := by
  have h := loop_up 0 l.length (fun k i (_ : Unit) => laws_eqRunS.l0 k l l (i : Int)) (fun _ _ => True) (fun _ _ => true)
    (by
      intro i s k hi _ _
      refine .inr ⟨(), ?_, trivial, rfl⟩
      simp only [laws_eqRunS.l0]
      rw [if_pos (by omega), if_pos (by omega), if_pos (by omega), w64n i (by omega)]
      simp [laws_eqRun.f])
    (by
      intro s k _ _
      simp only [laws_eqRunS.l0]
      rw [if_neg (by omega)])
    l.length 0 () k (by omega) trivial (by omega)
  unfold laws_eqRunS.f
  rw [if_pos rfl]
  simpa using h
theorem szRunS_eq (l : List LRun) (n : Int) (h0 : 0 ≤ n) (h1 : n ≤ 1048576) (hl : l.length ≤ 9223372036854775807) :
    (l.length ≤ 1048576 ∧ n - (l.length : Int) ≥ 0 ∧ laws_szRunS.f l n = some (n - (l.length : Int))) ∨ laws_szRunS.f l n = some (-1) := by
  unfold laws_szRunS.f
  by_cases c : (l.length : Int) ≤ n
  · left
    rw [w64 (by omega) (by omega), if_neg (by omega)]
    exact ⟨by omega, by omega, rfl⟩
  · right
    rw [w64 (by omega) (by omega), if_pos (by omega)]
end Go.Proofs.Ytfgeickfheogoaa.Pure

/- Marks on runs: what is written into a list's runs, and read again. -/
namespace Go.Proofs.Ytfgeickfheogoaa.Pure
open Go.RowKit Go.Proofs.Ytfgeickfheogoaa.Q Go.Proofs.YtfgeickfheogoaaW.PrintWords Go.Proofs.YtfgeickfheogoaaW.PrintLast Go.Proofs.YtfgeickfheogoaaW.PrintMore
set_option linter.unusedVariables false
set_option linter.unusedSimpArgs false

/-- run i of a list that has been marked from n on -/
def markOne (n : Int) (i : Nat) : Run := ⟨n + 3 * (i : Int), n + 3 * (i : Int) + 1, n + 3 * (i : Int) + 1 + 1⟩
def marked (m : Nat) (n : Int) : List Run := (List.range m).map (markOne n)
theorem marked_length (m : Nat) (n : Int) : (marked m n).length = m := by simp [marked]
theorem marked_succ (m : Nat) (n : Int) : marked (m + 1) n = marked m n ++ [markOne n m] := by simp [marked, List.range_succ]
theorem marked_get (m : Nat) (n : Int) (i : Nat) (h : i < (marked m n).length) : (marked m n)[i] = markOne n i := by simp [marked]
theorem markRunS_ev (l : List Run) (n : Int) (hl : l.length ≤ 1000000000) (h0 : 0 ≤ n) (h1 : n ≤ 1000000000000) : Ev (fun k => laws_markRunS.f k l n) (n + 3 * (l.length : Int), marked l.length n) := by
  have key := ev_up l.length (fun k i (s : List Run) => laws_markRunS.l0 k s (n + 3 * (i : Int)) (i : Int)) (fun i s => s.length = l.length ∧ s.take i = marked i n) (fun _ _ => (n + 3 * (l.length : Int), marked l.length n))
    (by
      intro i s hi hs
      right
      have hi' : i < s.length := by omega
      refine ⟨s.set i (markOne n i), fun k => ?_, ⟨by rw [List.length_set]; exact hs.1, by rw [take_set s i _ hi', hs.2, marked_succ]⟩, rfl⟩
      simp only [laws_markRunS.l0]
      have r1 : ∀ c : Run, rd_T57 (s.set i c) (i : Int) = c := by
        intro c
        rw [rdRun (s.set i c) i (by rw [List.length_set]; omega), List.getElem_set_self]
      rw [if_pos (by omega), if_pos (by omega)]
      simp only [Option.bind_some, Int.toNat_natCast, List.set_set, r1]
      rw [w64n i (by omega), w64 (x := n + 3 * (i : Int) + 1) (by omega) (by omega), w64 (x := n + 3 * (i : Int) + 1 + 1) (by omega) (by omega), w64 (x := n + 3 * (i : Int) + 1 + 1 + 1) (by omega) (by omega)]
      have e : n + 3 * (i : Int) + 1 + 1 + 1 = n + 3 * ((i + 1 : Nat) : Int) := by omega
      rw [e]
      rfl)
    (by
      intro s hs
      refine Ev.step (f := fun _ => some (n + 3 * (l.length : Int), s)) (fun k => ?_) (ev_const ?_)
      · simp only [laws_markRunS.l0]
        rw [if_neg (by omega)]
      · rw [← hs.2, ← hs.1, List.take_length])
    l.length 0 l (by omega) ⟨rfl, by simp [marked]⟩
  unfold laws_markRunS.f
  simpa using key
theorem heldRunS_ev (m : Nat) (n : Int) (hl : m ≤ 1000000000) (h0 : 0 ≤ n) (h1 : n ≤ 1000000000000) : Ev (fun k => laws_heldRunS.f k (marked m n) n) (n + 3 * (m : Int)) := by
  have key := ev_up m (fun k i (_ : Unit) => laws_heldRunS.l0 k (marked m n) (n + 3 * (i : Int)) (i : Int)) (fun _ _ => True) (fun _ _ => n + 3 * (m : Int))
    (by
      intro i s hi _
      right
      refine ⟨(), fun k => ?_, trivial, rfl⟩
      simp only [laws_heldRunS.l0]
      rw [if_pos (by rw [marked_length]; omega), if_pos (by omega), rdRun _ i (by rw [marked_length]; omega), marked_get, w64n i (by omega), w64 (x := n + 3 * (i : Int) + 1) (by omega) (by omega), w64 (x := n + 3 * (i : Int) + 1 + 1) (by omega) (by omega), w64 (x := n + 3 * (i : Int) + 1 + 1 + 1) (by omega) (by omega)]
      have e : n + 3 * (i : Int) + 1 + 1 + 1 = n + 3 * ((i + 1 : Nat) : Int) := by omega
      rw [if_pos (by simp only [markOne]), if_pos (by simp only [markOne]), if_pos (by simp only [markOne]), e])
    (by
      intro s _
      refine Ev.step (f := fun _ => some (n + 3 * (m : Int))) (fun k => ?_) (ev_const rfl)
      simp only [laws_heldRunS.l0]
      rw [if_neg (by rw [marked_length]; omega)])
    m 0 () (by omega) trivial
  unfold laws_heldRunS.f
  simpa using key
end Go.Proofs.Ytfgeickfheogoaa.Pure

/- The program's ShiftRegion and the reference's return the same, and what is returned is held by nobody else: over lists of numbers alone. -/
namespace Go.Proofs.Ytfgeickfheogoaa.Pure
open Go.RowKit Go.Proofs.Ytfgeickfheogoaa.Q Go.Proofs.YtfgeickfheogoaaW.PrintWords Go.Proofs.YtfgeickfheogoaaW.PrintLast Go.Proofs.YtfgeickfheogoaaW.PrintMore
set_option linter.unusedVariables false
set_option linter.unusedSimpArgs false

theorem FnExactShiftRegion : laws_FnExactShiftRegion.Pure := by
  intro l x y _ hl _ _
  apply Ev.rounds
  unfold laws_FnExactShiftRegion.f
  rcases szRunS_eq l 1048576 (by omega) (by omega) hl with ⟨hn, h0, hs⟩ | hs
  · have hc : Ev (fun k => laws_toRunS.f k l) (l.map cRun) := ev_of l.length (fun k hk => toRunS_eq l (by omega) k hk)
    have hll : (l.map cRun).length ≤ 1048576 := by simp; omega
    have hS := spec_ShiftRegion_ev (l.map cRun) x y (by omega)
    have hI := impl_ShiftRegion_eq (l.map cRun) x y
    have hlen := shiftV_len (l.map cRun) x y
    generalize shiftV (l.map cRun) x y = V at hS hI hlen
    have heq := ev_of V.length (fun k hk => eqRunS_refl V (by omega) k hk)
    have heqx := ev_of (l.map cRun).length (fun k hk => eqRunS_refl (l.map cRun) (by omega) k hk)
    have hmx := markRunS_ev (l.map cRun) 1 (by omega) (by omega) (by omega)
    have hm := markRunS_ev V 1 (by omega) (by omega) (by omega)
    have hh := heldRunS_ev V.length 1 (by omega) (by omega) (by omega)
    refine ev_now hs (ev_neg (by omega) (ev_bind hc (ev_bind hS (ev_bind hc (ev_now hI (ev_bind heq (ev_pos rfl (ev_bind hc (ev_bind heqx (ev_pos rfl (ev_bind hmx (ev_neg (by show ¬ (1 + 3 * ((l.map cRun).length : Int) < 0); omega) (ev_bind heq ?_)))))))))))))
    refine Ev.step (fun k => by simp only [laws_FnExactShiftRegion.j0]; rfl) ?_
    exact ev_neg (by simp) (ev_bind hm (ev_bind hh (ev_neg (by omega) (ev_pos rfl (ev_bind hc (ev_now hI (ev_bind heq (ev_pos rfl (ev_bind hh (ev_neg (by omega) (ev_pos rfl (Ev.now true))))))))))))
  · exact ev_now hs (ev_pos (by omega) (Ev.now true))
end Go.Proofs.Ytfgeickfheogoaa.Pure

/- The head of the translation reads as a plain cut. -/
namespace Go.Proofs.Ytfgeickfheogoaa.Head
set_option maxRecDepth 100000
theorem wordsSigns_word (w r : List Char) (h : w.all (fun c => !(c == Char.ofNat 32)) = true) : wordsSigns (w ++ Char.ofNat 32 :: r) = w :: wordsSigns r := by
  induction w with
  | nil => rfl
  | cons c w ih =>
    simp only [List.all_cons, Bool.and_eq_true, Bool.not_eq_true', beq_eq_false_iff_ne, ne_eq] at h
    have h1 := ih (by simpa using h.2)
    rw [List.cons_append, wordsSigns.eq_3 c _ h.1, h1]
def w1 : List Char := [104, 97, 114, 110, 101, 115, 115].map Char.ofNat
def w2 : List Char := [50, 56, 98, 98, 49, 50, 55, 52, 52, 51, 57, 52, 49, 48, 50, 99, 49, 101, 51, 56, 48, 55, 99, 55, 56, 54, 102, 55, 101, 99, 97, 50, 50, 51, 102, 48, 102, 55, 97, 102, 49, 102, 53, 49, 52, 56, 48, 100, 55, 53, 101, 102, 97, 100, 57, 50, 50, 50, 53, 55, 53, 102, 97, 55].map Char.ofNat
def w3 : List Char := [99, 117, 116].map Char.ofNat
def w4 : List Char := [97, 116, 32, 108, 111, 111, 112, 46, 101, 120, 97, 109, 112, 108, 101, 47, 112, 105, 120, 101, 108, 119, 111, 114, 107, 115, 47, 108, 97, 119, 115, 46, 70, 110, 69, 120, 97, 99, 116, 86, 97, 108, 105, 100, 82, 101, 103, 105, 111, 110, 32, 108, 111, 111, 112, 46, 101, 120, 97, 109, 112, 108, 101, 47, 112, 105, 120, 101, 108, 119, 111, 114, 107, 115, 47, 108, 97, 119, 115, 46, 70, 110, 69, 120, 97, 99, 116, 65, 114, 101, 97, 79, 102, 32, 108, 111, 111, 112, 46, 101, 120, 97, 109, 112, 108, 101, 47, 112, 105, 120, 101, 108, 119, 111, 114, 107, 115, 47, 108, 97, 119, 115, 46, 70, 110, 69, 120, 97, 99, 116, 82, 101, 103, 105, 111, 110, 72, 97, 115, 32, 108, 111, 111, 112, 46, 101, 120, 97, 109, 112, 108, 101, 47, 112, 105, 120, 101, 108, 119, 111, 114, 107, 115, 47, 108, 97, 119, 115, 46, 70, 110, 69, 120, 97, 99, 116, 66, 111, 120, 82, 101, 103, 105, 111, 110, 32, 108, 111, 111, 112, 46, 101, 120, 97, 109, 112, 108, 101, 47, 112, 105, 120, 101, 108, 119, 111, 114, 107, 115, 47, 108, 97, 119, 115, 46, 70, 110, 69, 120, 97, 99, 116, 66, 111, 117, 110, 100, 115, 79, 102, 32, 108, 111, 111, 112, 46, 101, 120, 97, 109, 112, 108, 101, 47, 112, 105, 120, 101, 108, 119, 111, 114, 107, 115, 47, 108, 97, 119, 115, 46, 70, 110, 66, 111, 120, 82, 101, 103, 105, 111, 110, 32, 108, 111, 111, 112, 46, 101, 120, 97, 109, 112, 108, 101, 47, 112, 105, 120, 101, 108, 119, 111, 114, 107, 115, 47, 108, 97, 119, 115, 46, 70, 110, 69, 100, 103, 101, 79, 102, 66, 111, 120, 32, 108, 111, 111, 112, 46, 101, 120, 97, 109, 112, 108, 101, 47, 112, 105, 120, 101, 108, 119, 111, 114, 107, 115, 47, 108, 97, 119, 115, 46, 70, 110, 69, 120, 97, 99, 116, 83, 104, 105, 102, 116, 82, 101, 103, 105, 111, 110, 32, 108, 111, 111, 112, 46, 101, 120, 97, 109, 112, 108, 101, 47, 112, 105, 120, 101, 108, 119, 111, 114, 107, 115, 47, 108, 97, 119, 115, 46, 70, 110, 69, 120, 97, 99, 116, 69, 100, 103, 101, 79, 102, 32, 108, 111, 111, 112, 46, 101, 120, 97, 109, 112, 108, 101, 47, 112, 105, 120, 101, 108, 119, 111, 114, 107, 115, 47, 108, 97, 119, 115, 46, 70, 110, 69, 120, 97, 99, 116, 67, 111, 109, 98, 105, 110, 101, 82, 101, 103, 105, 111, 110, 115, 32, 108, 111, 111, 112, 46, 101, 120, 97, 109, 112, 108, 101, 47, 112, 105, 120, 101, 108, 119, 111, 114, 107, 115, 47, 108, 97, 119, 115, 46, 70, 110, 69, 120, 97, 99, 116, 71, 114, 111, 119, 82, 101, 103, 105, 111, 110, 32, 108, 111, 111, 112, 46, 101, 120, 97, 109, 112, 108, 101, 47, 112, 105, 120, 101, 108, 119, 111, 114, 107, 115, 47, 108, 97, 119, 115, 46, 70, 110, 69, 120, 97, 99, 116, 83, 104, 114, 105, 110, 107, 82, 101, 103, 105, 111, 110, 32, 108, 111, 111, 112, 46, 101, 120, 97, 109, 112, 108, 101, 47, 112, 105, 120, 101, 108, 119, 111, 114, 107, 115, 47, 108, 97, 119, 115, 46, 70, 110, 69, 120, 97, 99, 116, 79, 112, 101, 110, 82, 101, 103, 105, 111, 110, 32, 108, 111, 111, 112, 46, 101, 120, 97, 109, 112, 108, 101, 47, 112, 105, 120, 101, 108, 119, 111, 114, 107, 115, 47, 108, 97, 119, 115, 46, 70, 110, 69, 120, 97, 99, 116, 80, 97, 114, 116, 115, 79, 102].map Char.ofNat
theorem signs0 : Try.prog.initOrder = String.ofList (w1 ++ Char.ofNat 32 :: (w2 ++ Char.ofNat 32 :: (w3 ++ Char.ofNat 32 :: w4))) := by kernel_rfl
theorem behind : behindMainWord (wordsSigns Try.prog.initOrder.toList) = w3 :: wordsSigns w4 := by
  rw [signs0, String.toList_ofList, wordsSigns_word w1 _ (by kernel_rfl), wordsSigns_word w2 _ (by kernel_rfl), wordsSigns_word w3 _ (by kernel_rfl)]
  unfold behindMainWord
  dsimp only
  rw [if_pos (by kernel_rfl)]
theorem strip_cut (R : List (List Char)) : stripLifts liftWords (w3 :: R) = ([], w3 :: R) := by kernel_rfl
theorem mayEnter_of (P : Program) (R : List (List Char)) (h : behindMainWord (wordsSigns P.initOrder.toList) = w3 :: R) (h1 : P.laysLater = false) (h2 : P.bearsReflect = false) (h3 : P.doorFits [] = true) : P.mayEnter = true := by
  unfold Program.mayEnter
  rw [h]
  dsimp only
  rw [strip_cut, h1, h2, h3]
  kernel_rfl
theorem liftsFinal_of (P : Program) (R : List (List Char)) (h : behindMainWord (wordsSigns P.initOrder.toList) = w3 :: R) : P.liftsFinal = false := by
  unfold Program.liftsFinal Program.headLifts
  rw [h]
  dsimp only
  rw [strip_cut]
  kernel_rfl
theorem make_of (P : Program) (R : List (List Char)) (h : behindMainWord (wordsSigns P.initOrder.toList) = w3 :: R) : P.make = some .cut := by
  unfold Program.make
  rw [h]
  kernel_rfl
theorem mayEnter : Try.prog.mayEnter = true := mayEnter_of _ _ behind (by kernel_rfl) (by kernel_rfl) (by kernel_rfl)
theorem liftsFinal : Try.prog.liftsFinal = false := liftsFinal_of _ _ behind
theorem make : Try.prog.make = some .cut := make_of _ _ behind
end Go.Proofs.Ytfgeickfheogoaa.Head

-- the row of the law FnExactShiftRegion
namespace Go.Proofs.Ytfgeickfheogoaa.fnExactShiftRegion
open Go.ChangeShapes Go.WideShapes Go.ChangeAt Go.RowKit Go.Proofs.Ytfgeickfheogoaa.Q Go.Proofs.YtfgeickfheogoaaW.PrintWords
open Go.ChangeMaps (open_string shut_string)
set_option linter.unusedVariables false
theorem own : ownKnob Try.prog.godebug = none := by kernel_rfl
theorem laidOut : laidOutB Try.prog = true := by kernel_rfl
set_option maxRecDepth 100000 in
theorem lifted (os : Os) (started : os.Started) (H : Type) (enc : TypeId × Value → H) :
    ReturnsInHanded {} Try.checked os 10 .any (Rows.fnExactShiftRegionSpec.pre6 enc Try.prog Try.f10 Rows.fnExactShiftRegionRow.domain false) (Rows.fnExactShiftRegionSpec.post enc Try.prog Try.f10 false true false false) := by
  refine returnsInHanded_of_change_sized (C := Try.checked) own started (by kernel_rfl) Try.func10
    (ChangeSpec.witness6 (enc := enc) (C := Try.checked) false ⟨#[], #[.slice none 0 0, .int .i64 0, .int .i64 0], []⟩ 8 (by kernel_rfl) (by kernel_rfl) (by kernel_rfl) (by kernel_rfl)) ?_
  intro W base args ds gs before hval0 hW hcnd hsz0 _
  have hval : ∀ (j : Nat) t v, Try.f10.params[j]? = some t → args[j]? = some v → Value.okWide Try.prog W .any base t v := hval0
  have hW' := hW
  obtain ⟨p, q, hA0, hV, rfl, hfz, hnd⟩ := hW
  have hA : DataW.TrodAll enc Try.prog W 0 (fun _ => true) true Try.f10.params.toList args.toList ds p := hA0
  rw [Try.params10] at hA hval
  obtain ⟨v0, vs0, d0, ds0, p0, q0, hargs, rfl, rfl, h0, r0⟩ := trodAll_cons hA
  obtain ⟨v1, vs1, d1, ds1, p1, q1, rfl, rfl, rfl, h1, r1⟩ := trodAll_cons r0
  obtain ⟨v2, vs2, d2, ds2, p2, q2, rfl, rfl, rfl, h2, r2⟩ := trodAll_cons r1
  obtain ⟨rfl, rfl, rfl⟩ := trodAll_nil r2
  obtain rfl : args = #[v0, v1, v2] := by cases args; simp_all
  obtain ⟨rfl, rfl⟩ := trodVars_none hV
  have k0 := h0
  have lt0 : ∀ x ∈ p0, x.block < W.heap.size := by obtain ⟨m, hm⟩ := k0; exact DataW.trod_lt m _ _ _ hm
  obtain ⟨fuel0, hf0⟩ := h0
  obtain ⟨aa0, len0, cap0, rfl⟩ := okWide_slice Try.underlying22 (hval 0 22 v0 rfl rfl)
  obtain ⟨l0, ⟨A0, c0, hcs0, hc0, hr0⟩, hq0⟩ := (opens_slice Try.underlying22 (by kernel_rfl) o59) _ _ _ _ _ _ hf0
  have hcs0' : [Value.slice aa0 len0 cap0] = [.slice A0 l0.length c0] := hcs0
  injection hcs0' with hcs0' _
  injection hcs0' with e10 e20 e30
  subst e10 e20 e30
  obtain ⟨a1, rfl, rfl, rfl, w1⟩ := open_int Try.underlying3 (hval 1 3 v1 rfl rfl) h1
  obtain ⟨a2, rfl, rfl, rfl, w2⟩ := open_int Try.underlying3 (hval 2 3 v2 rfl rfl) h2
  clear hA0 hval0 hsz0
  obtain ⟨k, hh⟩ := Pure.FnExactShiftRegion l0 a1 a2 hq0 hr0.2.1 (i64_of _ w1) (i64_of _ w2)
  refine (Q.laws_FnExactShiftRegion.calls k _ _ l0 a1 a2 true W hr0 hc0 hh).mono fun e W' hpost => ?_
  obtain ⟨he, bel0⟩ := hpost
  have bel : Below W.heap.size W W' := bel0
  subst he
  exact ⟨_, rfl, _, _, _, [], _, [], hW', trodAll_mk1 (shut_bool Try.underlying4 _), (trodAll_cons_mk (Below.trod laidOut (by kernel_rfl) (of_decide_eq_true (by kernel_rfl)) k0 bel lt0) (trodAll_cons_mk (shut_int Try.underlying3 w1) (trodAll_cons_mk (shut_int Try.underlying3 w2) trodAll_mk0))), rfl, bel.frame _, fun h => by cases h⟩
theorem closed : joinedFacts Try.prog 10 Try.f10 Rows.fnExactShiftRegionSpec Rows.fnExactShiftRegionRow = true := by
  unfold joinedFacts
  rw [Head.mayEnter, Head.liftsFinal, Head.make]
  simp only [Bool.and_eq_true]
  repeat' apply And.intro
  all_goals first | exact True.intro | (as_aux_lemma => kernel_rfl)
theorem over : Rows.fnExactShiftRegionRow.holds Try.pinned (OpenSpec.ofChange Rows.fnExactShiftRegionSpec) :=
  OpenClaim.holds_of_wide 10 Try.f10 rfl rfl rfl rfl rfl rfl rfl ⟨rfl, rfl, rfl, rfl, rfl⟩ rfl rfl rfl rfl rfl (by kernel_rfl) Try.func10 closed
    (of_decide_eq_true (by kernel_rfl)) (by unfold Func.isWrapper; first | (rw [if_pos (by decide +kernel)]; kernel_rfl) | (rw [if_neg (by decide +kernel)]; exact ⟨rfl, rfl⟩))
    (fun os started H enc _ => lifted os started H enc)
theorem proved : Rows.FnExactShiftRegionSaid := over
#print axioms proved
end Go.Proofs.Ytfgeickfheogoaa.fnExactShiftRegion
namespace Go.Proofs.Ytfgeickfheogoaa
/-- The row, under a short name, for the claim. -/
theorem fnExactShiftRegion_holds : Rows.FnExactShiftRegionSaid := fnExactShiftRegion.proved
end Go.Proofs.Ytfgeickfheogoaa
