/- A part of the proof that the statement FnExactAreaOfSaid holds, under no condition of its own: The program's AreaOf and the reference's return the same number, and leave their runs alone: over lists of numbers alone. -/
import Derived.Test.YtfgeickfheogoaaCFnExactAreaOf1
import Derived.Deep.Slices
import Derived.Deep.Fields
import Derived.ChangeSame
import Derived.ProofKit
import Derived.OpenShut
import Derived.ShutString
import Derived.ChangeOld
import Derived.SizedLaws
import GoSem.Claim
import Derived.Shelf.Abstract
import Derived.Test.YtfgeickfheogoaaRows
import Derived.JoinedOf
import Derived.KernelRfl
import Derived.WalkKit
import Derived.Below
import Derived.Carry
/- What an argument's reading as data tells: numbers, bools, slices and structs of them, by their kinds. -/
namespace Go.Proofs.Ytfgeickfheogoaa.Q
open Go.RowKit Go.Proofs.YtfgeickfheogoaaW.PrintWords Go.Proofs.YtfgeickfheogoaaW.PrintLast Go.Proofs.YtfgeickfheogoaaW.PrintMore
attribute [local go_sem] max2_int min2_int max_two min_two max_three min_three max_four min_four
set_option linter.unusedVariables false
set_option linter.unusedSimpArgs false
open Go.ChangeShapes Go.WideShapes Go.Deep

/-- A number of 64 bits. -/
def I64 (n : Int) : Prop := -9223372036854775808 ≤ n ∧ n ≤ 9223372036854775807
theorem i64_of (n : Int) (h : (Lit.int .i64 n).wf = true) : I64 n := by
  simp only [Lit.wf, Bool.and_eq_true, decide_eq_true_eq] at h
  have e1 : IntKind.min .i64 = -9223372036854775808 := by decide
  have e2 : IntKind.max .i64 = 9223372036854775807 := by decide
  unfold I64
  omega
/-- Whatever reads at type t as data is a y of this kind, of which Q holds. -/
def Opens {α : Type} (P : Program) (t : TypeId) (d : Kd α) (Q : α → Prop) : Prop :=
  ∀ (H : Type) (enc : TypeId × Value → H) (w : World) (fuel : Nat) (cs : List Value) (x : DataW H × List MemPlace),
    DataW.trod enc P w 0 (fun _ => true) true fuel t cs = some x → ∃ y : α, d.K w y cs ∧ Q y
section
variable {P : Program} {t : TypeId} {α β : Type}
theorem opens_i64 (ht : P.underlying t = some (.int .i64)) : Opens P t (Kd.int .i64) I64 := by
  intro H enc w fuel cs x h
  obtain ⟨n, rfl, _, hw⟩ := DataW.trod_int ht h
  exact ⟨n, rfl, i64_of n hw⟩
theorem opens_bool (ht : P.underlying t = some .bool) : Opens P t Kd.bool (fun _ => True) := by
  intro H enc w fuel cs x h
  obtain ⟨b, rfl, _⟩ := DataW.trod_bool ht h
  exact ⟨b, rfl, trivial⟩
theorem opens_slice {e : TypeId} {d : Kd α} {Q : α → Prop} (ht : P.underlying t = some (.slice e)) (hc : P.cellsOf e = d.sz) (ho : Opens P e d Q) :
    Opens P t (Kd.slice e d) (fun l => ∀ x ∈ l, Q x) := by
  intro H enc w fuel cs x h
  rcases open_slice ht h with ⟨rfl, _⟩ | ⟨a, len, cap, m, n, D, Pl, rfl, _, hl, hm, hmm, _, hi⟩
  · exact ⟨[], ⟨none, 0, rfl, Nat.le_refl _, rfl, by simp, fun h0 => absurd h0 (by simp)⟩, fun x hx => absurd hx (by simp)⟩
  · have hmc : m = cap := by simpa using hmm
    subst hmc
    have each : ∀ i, i < len → ∃ y : α, (∃ c, c.length = d.sz ∧ d.K w y c ∧ ∀ j u, c[j]? = some u → w.cell? (a.add (i * d.sz + j)) = some u) ∧ Q y := by
      intro i hil
      obtain ⟨cs', hcs, htr⟩ := hi i (by omega)
      rw [hc] at hcs
      obtain ⟨_, hcl, hat⟩ := World.cells?_some hcs
      obtain ⟨y, hK, hQ⟩ := ho H enc w n cs' _ htr
      refine ⟨y, ⟨cs', hcl, hK, fun j u hu => ?_⟩, hQ⟩
      have hj : j < d.sz := by rw [← hcl]; exact (List.getElem?_eq_some_iff.1 hu).1
      rw [← Go.Deep.add_add, hat j hj, hu]
    have hY : ∃ ys : List α, ys.length = len ∧ ∀ i, i < len → ∃ y, ys[i]? = some y ∧ (∃ c, c.length = d.sz ∧ d.K w y c ∧ ∀ j u, c[j]? = some u → w.cell? (a.add (i * d.sz + j)) = some u) ∧ Q y := by
      have key : ∀ q, q ≤ len → ∃ ys : List α, ys.length = q ∧ ∀ i, i < q → ∃ y, ys[i]? = some y ∧ (∃ c, c.length = d.sz ∧ d.K w y c ∧ ∀ j u, c[j]? = some u → w.cell? (a.add (i * d.sz + j)) = some u) ∧ Q y := by
        intro q
        induction q with
        | zero => intro _; exact ⟨[], rfl, fun i hi' => absurd hi' (by omega)⟩
        | succ q ih =>
          intro hq
          obtain ⟨ys, hyl, hys⟩ := ih (by omega)
          obtain ⟨y, hy⟩ := each q (by omega)
          refine ⟨ys ++ [y], by simp [hyl], fun i hi' => ?_⟩
          by_cases e : i = q
          · subst e
            exact ⟨y, by rw [List.getElem?_append_right (by omega)]; simp [hyl], hy⟩
          · obtain ⟨z, hz, hz2⟩ := hys i (by omega)
            exact ⟨z, by rw [List.getElem?_append_left (by omega)]; exact hz, hz2⟩
      exact key len (Nat.le_refl _)
    obtain ⟨ys, hyl, hys⟩ := hY
    refine ⟨ys, ⟨some a, m, by rw [hyl], by omega, rfl, by rw [hyl]; simp only [maxLen] at hm; omega, fun _ => ⟨a, rfl, fun j p hj => ?_⟩⟩, fun x hx => ?_⟩
    · have hjl : j < len := by rw [← hyl]; exact (List.getElem?_eq_some_iff.1 hj).1
      obtain ⟨y, hy, hc2, _⟩ := hys j hjl
      rw [hy] at hj
      obtain rfl := Option.some.inj hj
      exact hc2
    · obtain ⟨j, hj, rfl⟩ := List.getElem_of_mem hx
      obtain ⟨y, hy, _, hq⟩ := hys j (by omega)
      rw [List.getElem?_eq_getElem hj] at hy
      obtain rfl := Option.some.inj hy
      exact hq
/-- Fields in line, from the cell 'off' on. -/
def OpensF (P : Program) (fs : List Field) (off : Nat) (d : Kd α) (Q : α → Prop) : Prop :=
  ∀ (H : Type) (enc : TypeId × Value → H) (w : World) (n : Nat) (cs : List Value), cs.length = off + d.sz →
    (∀ f ∈ fs, ∃ x, DataW.trod enc P w 0 (fun _ => true) true n f.type ((cs.drop f.offset).take (P.cellsOf f.type)) = some x) → ∃ y : α, d.K w y (cs.drop off) ∧ Q y
theorem opensF_one {f : Field} {off : Nat} {d : Kd α} {Q : α → Prop} (ho : f.offset = off) (hc : P.cellsOf f.type = d.sz) (h : Opens P f.type d Q) : OpensF P [f] off d Q := by
  intro H enc w n cs hl hf
  obtain ⟨x, hx⟩ := hf f (by simp)
  rw [ho, hc, List.take_of_length_le (by rw [List.length_drop]; omega)] at hx
  exact h H enc w n _ _ hx
theorem opensF_cons {f : Field} {fs : List Field} {off : Nat} {d : Kd α} {Q : α → Prop} {d' : Kd β} {Q' : β → Prop} (ho : f.offset = off) (hc : P.cellsOf f.type = d.sz) (h : Opens P f.type d Q) (h' : OpensF P fs (off + d.sz) d' Q') :
    OpensF P (f :: fs) off (Kd.pair d d') (fun p => Q p.1 ∧ Q' p.2) := by
  intro H enc w n cs hl hf
  have hl' : cs.length = off + (d.sz + d'.sz) := hl
  obtain ⟨x, hx⟩ := hf f (by simp)
  rw [ho, hc] at hx
  obtain ⟨y, hK, hQ⟩ := h H enc w n _ _ hx
  obtain ⟨y', hK', hQ'⟩ := h' H enc w n cs (by omega) (fun g hg => hf g (by simp [hg]))
  refine ⟨(y, y'), ⟨(cs.drop off).take d.sz, cs.drop (off + d.sz), ?_, hK, hK'⟩, hQ, hQ'⟩
  rw [← List.drop_drop, List.take_append_drop]
theorem opens_struct {fs : Array Field} {d : Kd α} {Q : α → Prop} (ht : P.underlying t = some (.struct fs)) (hc : P.cellsOf t = d.sz) (h : OpensF P fs.toList 0 d Q) : Opens P t d Q := by
  intro H enc w fuel cs x hx
  obtain ⟨xs, n, _, _, hcl, hxl, hg⟩ := DataW.trod_struct ht hx
  obtain ⟨y, hK, hQ⟩ := h H enc w n cs (by omega) (fun f hf => by
    obtain ⟨i, hi, rfl⟩ := List.getElem_of_mem hf
    have hi' : i < fs.size := by simpa using hi
    have h1 := hg i (fs.toList[i]) (by simp [hi'])
    rw [List.getElem?_eq_getElem (by omega)] at h1
    exact ⟨_, h1⟩)
  exact ⟨y, by simpa using hK, hQ⟩
theorem opens_iso {d : Kd α} {Q : α → Prop} (f : β → α) (g : α → β) (hfg : ∀ a, f (g a) = a) (h : Opens P t d Q) : Opens P t (Kd.iso d f) (fun b => Q (f b)) := by
  intro H enc w fuel cs x hx
  obtain ⟨y, hK, hQ⟩ := h H enc w fuel cs x hx
  refine ⟨g y, ?_, ?_⟩
  · show d.K w (f (g y)) cs
    rw [hfg]; exact hK
  · show Q (f (g y))
    rw [hfg]; exact hQ
end
end Go.Proofs.Ytfgeickfheogoaa.Q

/- What is known of structs that came in. -/
namespace Go.Proofs.Ytfgeickfheogoaa.Q
open Go.RowKit Go.Proofs.YtfgeickfheogoaaW.PrintWords Go.Proofs.YtfgeickfheogoaaW.PrintLast Go.Proofs.YtfgeickfheogoaaW.PrintMore
attribute [local go_sem] max2_int min2_int max_two min_two max_three min_three max_four min_four
set_option linter.unusedVariables false
set_option linter.unusedSimpArgs false
def wf59 (x : S59) : Prop := I64 x.f0 ∧ I64 x.f1 ∧ I64 x.f2
theorem o59 : Opens Try.prog 59 k59 wf59 :=
  opens_iso (fun x : S59 => (x.f0, x.f1, x.f2)) (fun p => (⟨p.1, p.2.1, p.2.2⟩ : S59)) (fun _ => rfl) (opens_struct Try.underlying59 (by kernel_rfl) (opensF_cons rfl (by kernel_rfl) (opens_i64 Try.underlying3) (opensF_cons rfl (by kernel_rfl) (opens_i64 Try.underlying3) (opensF_one rfl (by kernel_rfl) (opens_i64 Try.underlying3)))))
end Go.Proofs.Ytfgeickfheogoaa.Q

/- The statement over plain lists and numbers that is left of the law FnExactAreaOf. -/
namespace Go.Proofs.Ytfgeickfheogoaa.Q
open Go.RowKit Go.Proofs.YtfgeickfheogoaaW.PrintWords Go.Proofs.YtfgeickfheogoaaW.PrintLast Go.Proofs.YtfgeickfheogoaaW.PrintMore
attribute [local go_sem] max2_int min2_int max_two min_two max_three min_three max_four min_four
set_option linter.unusedVariables false
set_option linter.unusedSimpArgs false
def laws_FnExactAreaOf.Pure : Prop := ∀ (l0 : List (S59)), (∀ y ∈ l0, wf59 y) → l0.length ≤ 9223372036854775807 → ∃ k, laws_FnExactAreaOf.f k l0 = some true
end Go.Proofs.Ytfgeickfheogoaa.Q

/- Words of this session's own hand-made walks: where the first element lies for which a test holds; draws that follow each other. -/
namespace Go.Proofs.Ytfgeickfheogoaa.Q
open Go.RowKit Go.Proofs.YtfgeickfheogoaaW.PrintWords Go.Proofs.YtfgeickfheogoaaW.PrintLast Go.Proofs.YtfgeickfheogoaaW.PrintMore
attribute [local go_sem] max2_int min2_int max_two min_two max_three min_three max_four min_four
set_option linter.unusedVariables false
set_option linter.unusedSimpArgs false

theorem dtrans {a b c : World} (h : Drawn0 a b) (k : Drawn0 b c) : Drawn0 a c := by
  obtain ⟨n, rfl⟩ := k
  exact h.step n

/-- where the first element is for which p holds; -1 -/
def idxF {α : Type} (p : α → Bool) : List α → Int
  | [] => -1
  | x :: xs => if p x then 0 else (let r := idxF p xs; if r < 0 then -1 else r + 1)
theorem idxF_lt {α : Type} (p : α → Bool) (l : List α) : idxF p l < l.length := by
  induction l with
  | nil => simp [idxF]
  | cons x xs ih => unfold idxF; split <;> simp <;> (try split) <;> omega
theorem idxF_ge {α : Type} (p : α → Bool) (l : List α) : -1 ≤ idxF p l := by
  induction l with
  | nil => simp [idxF]
  | cons x xs ih => unfold idxF; split <;> simp <;> (try split) <;> omega
theorem idxF_any {α : Type} (p : α → Bool) (l : List α) : decide (idxF p l ≥ 0) = l.any p := by
  induction l with
  | nil => simp [idxF]
  | cons x xs ih =>
    unfold idxF
    by_cases h : p x = true
    · simp [h]
    · simp only [h, List.any_cons, Bool.false_or, ← ih]
      simp only [Bool.false_eq_true, if_false]
      split
      · simp; omega
      · simp; omega
/-- p fails at all that lies before k -/
def SawNone {α : Type} (p : α → Bool) (l : List α) (k : Nat) : Prop := ∀ j, j < k → ∀ h : j < l.length, p l[j] = false
theorem SawNone.succ {α : Type} {p : α → Bool} {l : List α} {k : Nat} (h : SawNone p l k) (hk : k < l.length) (hp : p l[k] = false) : SawNone p l (k + 1) := by
  intro j hj hl
  by_cases e : j = k
  · subst e; exact hp
  · exact h j (by omega) hl
theorem idxF_at {α : Type} (p : α → Bool) (l : List α) (k : Nat) (hk : k < l.length) (hs : SawNone p l k) (hp : p l[k] = true) : idxF p l = k := by
  induction l generalizing k with
  | nil => simp at hk
  | cons x xs ih =>
    unfold idxF
    cases k with
    | zero => simp at hp; simp [hp]
    | succ k =>
      have h0 : p x = false := hs 0 (by omega) (by simp)
      have := ih k (by simpa using hk) (fun j hj h => hs (j + 1) (by omega) (by simpa using h)) (by simpa using hp)
      simp [h0, this]; omega
theorem idxF_none {α : Type} (p : α → Bool) (l : List α) (hs : SawNone p l l.length) : idxF p l = -1 := by
  induction l with
  | nil => rfl
  | cons x xs ih =>
    unfold idxF
    have h0 : p x = false := hs 0 (by simp) (by simp)
    have := ih (fun j hj h => hs (j + 1) (by simpa using hj) (by simpa using h))
    simp [h0, this]
theorem rd_get (l : List Int) (k : Nat) (hk : k < l.length) : rd l k = l[k] := by simp [rd, hk]
theorem ret_int {k : IntKind} {a b : Int} (h : a = b) : Ending.returned (.int k a) = .returned (.int k b) := by rw [h]
theorem ret_bool {a b : Bool} (h : a = b) : Ending.returned (.bool a) = .returned (.bool b) := by rw [h]
end Go.Proofs.Ytfgeickfheogoaa.Q

/- Plain words: numbers that do not wrap, elements of lists, rounds that are enough. -/
namespace Go.Proofs.Ytfgeickfheogoaa.Pure
open Go.RowKit Go.Proofs.Ytfgeickfheogoaa.Q Go.Proofs.YtfgeickfheogoaaW.PrintWords Go.Proofs.YtfgeickfheogoaaW.PrintLast Go.Proofs.YtfgeickfheogoaaW.PrintMore
set_option linter.unusedVariables false
set_option linter.unusedSimpArgs false

theorem w64 {x : Int} (h1 : -9223372036854775808 ≤ x) (h2 : x ≤ 9223372036854775807) : wrap64 x = x := by unfold wrap64; omega
theorem w64n (n : Nat) (h : n < 9000000000000000000) : wrap64 ((n : Int) + 1) = ((n + 1 : Nat) : Int) := by unfold wrap64; omega
theorem rd_nat (l : List Int) (i : Nat) (h : i < l.length) : rd l (i : Int) = l[i] := by simp [rd, h]
theorem tdiv_nn (a b : Int) (h : 0 ≤ a) : Int.tdiv a b = a / b := Int.tdiv_eq_ediv_of_nonneg h
theorem tmod_nn (a b : Int) (h : 0 ≤ a) : Int.tmod a b = a % b := Int.tmod_eq_emod_of_nonneg h
/-- From K rounds on. -/
theorem ev_of {α : Type} {g : Nat → Option α} {r : α} (K : Nat) (h : ∀ k, K < k → g k = some r) : Ev g r := ⟨K + 1, fun k hk => h k (by omega)⟩
theorem ev_const {α : Type} {o : Option α} {r : α} (h : o = some r) : Ev (fun _ => o) r := ⟨0, fun _ _ => h⟩
theorem ev_bind {α β : Type} {g : Nat → Option α} {f : Nat → α → Option β} {a : α} {r : β} (h : Ev g a) (k : Ev (fun n => f n a) r) : Ev (fun n => (g n).bind (f n)) r := Ev.bind h k
theorem ev_now {α β : Type} {o : Option α} {f : Nat → α → Option β} {a : α} {r : β} (h : o = some a) (k : Ev (fun n => f n a) r) : Ev (fun n => o.bind (f n)) r := Ev.bind (ev_const h) k
theorem ev_pos {α : Type} {c : Prop} [Decidable c] {f g : Nat → Option α} {r : α} (h : c) (k : Ev f r) : Ev (fun n => if c then f n else g n) r := by
  simpa [h] using k
theorem ev_neg {α : Type} {c : Prop} [Decidable c] {f g : Nat → Option α} {r : α} (h : ¬ c) (k : Ev g r) : Ev (fun n => if c then f n else g n) r := by
  simpa [h] using k
theorem mn_def (a b : Int) : mn a b = min a b := by unfold mn; omega
theorem mx_def (a b : Int) : mx a b = max a b := by unfold mx; omega
/-- A loop that counts up to n: what it answers from i on. -/
theorem loop_up {σ ρ : Type} (K n : Nat) (L : Nat → Nat → σ → Option ρ) (Inv : Nat → σ → Prop) (F : Nat → σ → ρ)
    (step : ∀ i s k, i < n → Inv i s → K ≤ k → (L (k + 1) i s = some (F i s)) ∨ ∃ s', L (k + 1) i s = L k (i + 1) s' ∧ Inv (i + 1) s' ∧ F (i + 1) s' = F i s)
    (last : ∀ s k, Inv n s → K ≤ k → L (k + 1) n s = some (F n s)) :
    ∀ d i s k, i + d = n → Inv i s → K + d < k → L k i s = some (F i s) := by
  intro d
  induction d with
  | zero =>
    intro i s k hi hinv hk
    obtain ⟨k, rfl⟩ : ∃ m, k = m + 1 := ⟨k - 1, by omega⟩
    have : i = n := by omega
    subst this
    exact last s k hinv (by omega)
  | succ d ih =>
    intro i s k hi hinv hk
    obtain ⟨k, rfl⟩ : ∃ m, k = m + 1 := ⟨k - 1, by omega⟩
    rcases step i s k (by omega) hinv (by omega) with h | ⟨s', h, hi', hF⟩
    · exact h
    · rw [h, ih (i + 1) s' k (by omega) hi' (by omega), hF]
theorem take_set {α : Type} (s : List α) (i : Nat) (c : α) (h : i < s.length) : (s.set i c).take (i + 1) = s.take i ++ [c] := by
  rw [List.take_succ_eq_append_getElem (by simpa using h), List.take_set_of_le (Nat.le_refl i)]
  simp
end Go.Proofs.Ytfgeickfheogoaa.Pure

/- Runs: what the program and the reference take for a region; copies of runs. -/
namespace Go.Proofs.Ytfgeickfheogoaa.Pure
open Go.RowKit Go.Proofs.Ytfgeickfheogoaa.Q Go.Proofs.YtfgeickfheogoaaW.PrintWords Go.Proofs.YtfgeickfheogoaaW.PrintLast Go.Proofs.YtfgeickfheogoaaW.PrintMore
set_option linter.unusedVariables false
set_option linter.unusedSimpArgs false

abbrev Run := S57
abbrev LRun := S59
theorem rdRun (l : List Run) (i : Nat) (h : i < l.length) : rd_T57 l (i : Int) = l[i] := by simp [rd_T57, h]
theorem rdLRun (l : List LRun) (i : Nat) (h : i < l.length) : rd_T59 l (i : Int) = l[i] := by simp [rd_T59, h]
def runOK (r : Run) : Bool := decide (0 ≤ r.f0) && decide (r.f0 < 16) && decide (0 ≤ r.f1) && decide (r.f1 < r.f2) && decide (r.f2 ≤ 16)
theorem runOK_iff (r : Run) : runOK r = true ↔ 0 ≤ r.f0 ∧ r.f0 < 16 ∧ 0 ≤ r.f1 ∧ r.f1 < r.f2 ∧ r.f2 ≤ 16 := by
  simp [runOK, and_assoc]
def runAfter (p r : Run) : Bool := decide (p.f0 < r.f0) || (decide (p.f0 = r.f0) && decide (p.f2 < r.f1))
theorem runAfter_iff (p r : Run) : runAfter p r = true ↔ p.f0 < r.f0 ∨ (p.f0 = r.f0 ∧ p.f2 < r.f1) := by
  simp [runAfter]
/-- Runs of a region: each in range, and behind the one before it. -/
def validFrom : Option Run → List Run → Bool
  | _, [] => true
  | none, r :: rs => runOK r && validFrom (some r) rs
  | some p, r :: rs => (runOK r && runAfter p r) && validFrom (some r) rs
def validR (l : List Run) : Bool := validFrom none l
def before (l : List Run) (i : Nat) : Option Run := if i = 0 then none else l[i - 1]?
theorem before_zero (l : List Run) : before l 0 = none := rfl
theorem before_succ (l : List Run) (i : Nat) (h : i < l.length) : before l (i + 1) = some l[i] := by simp [before, h]
theorem validFrom_at (l : List Run) (i : Nat) (h : i < l.length) : validFrom (before l i) (l.drop i) = ((runOK l[i] && (match before l i with | none => true | some p => runAfter p l[i])) && validFrom (before l (i + 1)) (l.drop (i + 1))) := by
  rw [List.drop_eq_getElem_cons h, before_succ l i h]
  cases before l i with
  | none => simp [validFrom]
  | some p => rfl
theorem inRange_eq' (n a b : Int) : spec_inRange.f n a b = some (decide (a ≤ n) && decide (n ≤ b)) := by
  unfold spec_inRange.f; by_cases h : a ≤ n <;> simp [h]
theorem sval_j1 (l : List Run) (i k : Nat) (hl : l.length ≤ 1000000000000) (h : i < l.length) (b : Bool) :
    spec_validRuns.j1 (k + 1) l i b l[i].f0 l[i].f1 l[i].f2 = if b = true then some false else if (match before l i with | none => true | some p => runAfter p l[i]) = true then spec_validRuns.l0 k l ((i + 1 : Nat) : Int) else some false := by
  simp only [spec_validRuns.j1]
  by_cases hb : b = true
  · rw [if_pos hb, if_pos hb]
  rw [if_neg hb, if_neg hb, w64n i (by omega)]
  cases i with
  | zero => simp [before]
  | succ i =>
    have e : ((i + 1 : Nat) : Int) - 1 = (i : Int) := by omega
    rw [if_pos (by omega), w64 (x := ((i + 1 : Nat) : Int) - 1) (by omega) (by omega), e, if_pos (by omega), if_pos (by omega), rdRun l i (by omega), before_succ l i (by omega)]
    simp only
    by_cases c1 : l[i + 1].f0 < l[i].f0
    · rw [if_pos c1, if_neg (by rw [runAfter_iff]; omega)]
    rw [if_neg c1]
    by_cases c2 : l[i + 1].f0 = l[i].f0
    · rw [if_pos c2]
      by_cases c3 : l[i + 1].f1 ≤ l[i].f2
      · rw [if_pos c3, if_neg (by rw [runAfter_iff]; omega)]
      · rw [if_neg c3, if_pos (by rw [runAfter_iff]; omega)]
    · rw [if_neg c2, if_pos (by rw [runAfter_iff]; omega)]
theorem spec_validRuns_eq (l : List Run) (hl : l.length ≤ 1000000000000) (k : Nat) (hk : 2 * l.length + 1 < k) : spec_validRuns.f k l = some (validR l) := by
  have key : ∀ d i k, i + d = l.length → 2 * d < k → spec_validRuns.l0 k l (i : Int) = some (validFrom (before l i) (l.drop i)) := by
    intro d
    induction d with
    | zero =>
      intro i k hi hk
      obtain ⟨k, rfl⟩ : ∃ m, k = m + 1 := ⟨k - 1, by omega⟩
      simp only [spec_validRuns.l0]
      rw [if_neg (by omega), List.drop_of_length_le (by omega)]
      cases before l i <;> rfl
    | succ d ih =>
      intro i k hi hk
      obtain ⟨k, rfl⟩ : ∃ m, k = m + 1 + 1 := ⟨k - 2, by omega⟩
      have hlt : i < l.length := by omega
      have hn := ih (i + 1) k (by omega) (by omega)
      rw [validFrom_at l i hlt]
      simp only [spec_validRuns.l0]
      rw [if_pos (by omega), if_pos (by omega), rdRun l i hlt, inRange_eq', inRange_eq', inRange_eq']
      simp only [Option.bind_some, sval_j1 l i k hl hlt, hn]
      by_cases c1 : 0 ≤ l[i].f0 ∧ l[i].f0 ≤ 15
      · rw [if_pos (by simpa using c1)]
        by_cases c2 : 0 ≤ l[i].f1 ∧ l[i].f1 ≤ 15
        · rw [if_pos (by simpa using c2), w64 (x := l[i].f1 + 1) (by omega) (by omega)]
          by_cases c3 : l[i].f1 + 1 ≤ l[i].f2 ∧ l[i].f2 ≤ 16
          · rw [if_neg (by simp; omega)]
            have : runOK l[i] = true := by rw [runOK_iff]; omega
            rw [this, Bool.true_and]
            cases (match before l i with | none => true | some p => runAfter p l[i]) <;> rfl
          · rw [if_pos (by simp; omega)]
            have : runOK l[i] = false := by rw [← Bool.not_eq_true, runOK_iff]; omega
            rw [this]; rfl
        · rw [if_neg (by simpa using c2), if_pos trivial]
          have : runOK l[i] = false := by rw [← Bool.not_eq_true, runOK_iff]; omega
          rw [this]; rfl
      · rw [if_neg (by simpa using c1), if_pos trivial]
        have : runOK l[i] = false := by rw [← Bool.not_eq_true, runOK_iff]; omega
        rw [this]; rfl
  unfold spec_validRuns.f
  have := key l.length 0 k (by omega) (by omega)
  simpa [before_zero, validR] using this
theorem ival_j1 (l : List Run) (i k : Nat) (hl : l.length ≤ 1000000000000) (h : i < l.length) (b : Bool) :
    impl_isRegion.j1 (k + 1) l i l (l.length : Int) i b l[i].f0 l[i].f1 l[i].f2 = if b = true then some false else if (match before l i with | none => true | some p => runAfter p l[i]) = true then impl_isRegion.l0 k l l (l.length : Int) ((i + 1 : Nat) : Int) else some false := by
  simp only [impl_isRegion.j1]
  by_cases hb : b = true
  · rw [if_pos hb, if_pos hb]
  rw [if_neg hb, if_neg hb, w64n i (by omega)]
  cases i with
  | zero => simp [before]
  | succ i =>
    have e : ((i + 1 : Nat) : Int) - 1 = (i : Int) := by omega
    rw [if_neg (by omega), w64 (x := ((i + 1 : Nat) : Int) - 1) (by omega) (by omega), e, if_pos (by omega), if_pos (by omega), rdRun l i (by omega), before_succ l i (by omega)]
    simp only
    by_cases c1 : l[i + 1].f0 < l[i].f0
    · rw [if_pos c1, if_neg (by rw [runAfter_iff]; omega)]
    rw [if_neg c1]
    by_cases c2 : l[i + 1].f0 = l[i].f0
    · rw [if_pos c2]
      by_cases c3 : l[i + 1].f1 ≤ l[i].f2
      · rw [if_pos c3, if_neg (by rw [runAfter_iff]; omega)]
      · rw [if_neg c3, if_pos (by rw [runAfter_iff]; omega)]
    · rw [if_neg c2, if_pos (by rw [runAfter_iff]; omega)]
theorem impl_isRegion_eq (l : List Run) (hl : l.length ≤ 1000000000000) (k : Nat) (hk : 2 * l.length + 1 < k) : impl_isRegion.f k l = some (validR l) := by
  have key : ∀ d i k, i + d = l.length → 2 * d < k → impl_isRegion.l0 k l l (l.length : Int) (i : Int) = some (validFrom (before l i) (l.drop i)) := by
    intro d
    induction d with
    | zero =>
      intro i k hi hk
      obtain ⟨k, rfl⟩ : ∃ m, k = m + 1 := ⟨k - 1, by omega⟩
      simp only [impl_isRegion.l0]
      rw [if_neg (by omega), List.drop_of_length_le (by omega)]
      cases before l i <;> rfl
    | succ d ih =>
      intro i k hi hk
      obtain ⟨k, rfl⟩ : ∃ m, k = m + 1 + 1 := ⟨k - 2, by omega⟩
      have hlt : i < l.length := by omega
      have hn := ih (i + 1) k (by omega) (by omega)
      rw [validFrom_at l i hlt]
      simp only [impl_isRegion.l0]
      rw [if_pos (by omega), if_pos (by omega), rdRun l i hlt]
      simp only [if_pos (show (i : Int) < (l.length : Int) by omega), ival_j1 l i k hl hlt, hn]
      by_cases c : runOK l[i] = true
      · rw [c, Bool.true_and]
        rw [runOK_iff] at c
        rw [if_neg (by omega), if_neg (by omega), if_neg (by omega), if_neg (by omega), if_neg (by simp; omega)]
        cases (match before l i with | none => true | some p => runAfter p l[i]) <;> rfl
      · have hc := c
        rw [runOK_iff] at c
        simp only [Bool.not_eq_true] at hc
        rw [hc, Bool.false_and, Bool.false_and]
        try simp only [if_true]
        by_cases c1 : l[i].f0 < 0
        · rw [if_pos c1]
        rw [if_neg c1]
        by_cases c2 : l[i].f0 ≥ 16
        · rw [if_pos c2]
        rw [if_neg c2]
        by_cases c3 : l[i].f1 < 0
        · rw [if_pos c3]
        rw [if_neg c3]
        by_cases c4 : l[i].f2 ≤ l[i].f1
        · rw [if_pos c4]
        rw [if_neg c4, if_pos (by simp; omega)]
  unfold impl_isRegion.f
  have := key l.length 0 k (by omega) (by omega)
  simpa [before_zero, validR] using this
/-! copies -/
def cRun (r : LRun) : Run := ⟨r.f0, r.f1, r.f2⟩
theorem toRunS_eq (l : List LRun) (hl : l.length ≤ 2000000) (k : Nat) (hk : l.length < k) : laws_toRunS.f k l = some (l.map cRun) := by
  have h := loop_up 0 l.length (fun k i s => laws_toRunS.l0 k l s (i : Int)) (fun i s => s.length = l.length) (fun i s => s.take i ++ (l.drop i).map cRun)
    (by
      intro i s k hi hs _
      refine .inr ⟨s.set i (cRun l[i]), ?_, by simpa using hs, ?_⟩
      · simp only [laws_toRunS.l0]
        rw [if_pos (by omega), if_pos (by omega), rdLRun l i hi]
        simp only [laws_toRun.f, Option.bind_some]
        rw [if_pos (by omega), w64n i (by omega)]; rfl
      · skip
        rw [take_set s i _ (by omega), List.drop_eq_getElem_cons hi, List.map_cons, List.append_assoc]; rfl)
    (by
      intro s k hs _
      simp only [laws_toRunS.l0]
      rw [if_neg (by omega), List.drop_length]; simp [← hs])
    l.length 0 (List.replicate l.length z57) k (by omega) (by simp) (by omega)
  unfold laws_toRunS.f
  rw [if_pos (by omega), if_pos (by omega)]
  simpa using h
theorem eqRunS_refl (l : List Run) (hl : l.length ≤ 1000000000000) (k : Nat) (hk : l.length < k) : laws_eqRunS.f k l l = some true := by
  have h := loop_up 0 l.length (fun k i (_ : Unit) => laws_eqRunS.l0 k l l (i : Int)) (fun _ _ => True) (fun _ _ => true)
    (by
      intro i s k hi _ _
      refine .inr ⟨(), ?_, trivial, rfl⟩
      simp only [laws_eqRunS.l0]
      rw [if_pos (by omega), if_pos (by omega), if_pos (by omega), w64n i (by omega)]
      simp [laws_eqRun.f])
    (by
      intro s k _ _
      simp only [laws_eqRunS.l0]
      rw [if_neg (by omega)])
    l.length 0 () k (by omega) trivial (by omega)
  unfold laws_eqRunS.f
  rw [if_pos rfl]
  simpa using h
theorem szRunS_eq (l : List LRun) (n : Int) (h0 : 0 ≤ n) (h1 : n ≤ 1048576) (hl : l.length ≤ 9223372036854775807) :
    (l.length ≤ 1048576 ∧ n - (l.length : Int) ≥ 0 ∧ laws_szRunS.f l n = some (n - (l.length : Int))) ∨ laws_szRunS.f l n = some (-1) := by
  unfold laws_szRunS.f
  by_cases c : (l.length : Int) ≤ n
  · left
    rw [w64 (by omega) (by omega), if_neg (by omega)]
    exact ⟨by omega, by omega, rfl⟩
  · right
    rw [w64 (by omega) (by omega), if_pos (by omega)]
end Go.Proofs.Ytfgeickfheogoaa.Pure

namespace Go.Proofs.Ytfgeickfheogoaa.Q
open Go.RowKit Go.Proofs.YtfgeickfheogoaaW.PrintWords Go.Proofs.YtfgeickfheogoaaW.PrintLast Go.Proofs.YtfgeickfheogoaaW.PrintMore
attribute [local go_sem] max2_int min2_int max_two min_two max_three min_three max_four min_four
set_option linter.unusedVariables false
set_option linter.unusedSimpArgs false
/-! ### impl_bounds: function 67 -/
def impl_bounds.l0 : Nat → List (S57) → Int → Int → List (S57) → Int → Int → Option (Int × Int × Int × Int)
  | 0, _, _, _, _, _, _ => none
  | k + 1, x0, x3, x4, x9, x10, x11 => if x11 < x10 then (if 0 ≤ x11 then (if x11 < (x9.length : Int) then (impl_bounds.l0 k x0 (mn x3 ((rd_T57 x9 x11).f1)) (mx x4 ((rd_T57 x9 x11).f2)) x9 x10 (wrap64 (x11 + 1))) else (none)) else (none)) else (if 0 < (x0.length : Int) then (if 0 ≤ (wrap64 ((x0.length : Int) - 1)) then (if (wrap64 ((x0.length : Int) - 1)) < (x0.length : Int) then (some (x3, (rd_T57 x0 0).f0, wrap64 (x4 - x3), wrap64 ((wrap64 (((rd_T57 x0 (wrap64 ((x0.length : Int) - 1))).f0) - ((rd_T57 x0 0).f0))) + 1))) else (none)) else (none)) else (none))
def impl_bounds.f (k : Nat) (l0 : List (S57)) : Option (Int × Int × Int × Int) := impl_bounds.l0 k l0 16 0 l0 (l0.length : Int) 0
theorem impl_bounds.mono_l : ∀ k, (∀ y0 y1 y2 y3 y4 y5, LeO (impl_bounds.l0 k y0 y1 y2 y3 y4 y5) (impl_bounds.l0 (k + 1) y0 y1 y2 y3 y4 y5))
  | 0 => fun _ _ _ _ _ _ r h => by simp [impl_bounds.l0] at h
  | k + 1 => by
    have ih0 := impl_bounds.mono_l k
    · intro y0 y1 y2 y3 y4 y5
      unfold impl_bounds.l0
      repeat' first
      | (with_reducible exact ih0 _ _ _ _ _ _)
      | (with_reducible exact LeO.refl _)
      | (with_reducible exact LeO.none _)
      | (with_reducible refine LeO.ite ?_ ?_)
      | (with_reducible refine LeO.bind ?_ (fun _ => ?_))
      | exact ih0 _ _ _ _ _ _
      | exact LeO.none _
      | refine LeO.ite ?_ ?_
      | refine LeO.bind ?_ (fun _ => ?_)
theorem impl_bounds.mono : ∀ a0 k, LeO (impl_bounds.f k a0) (impl_bounds.f (k + 1) a0) := by
  intro a0 k
  have ih0 := impl_bounds.mono_l k
  unfold impl_bounds.f
  repeat' first
      | (with_reducible exact ih0 _ _ _ _ _ _)
      | (with_reducible exact LeO.refl _)
      | (with_reducible exact LeO.none _)
      | (with_reducible refine LeO.ite ?_ ?_)
      | (with_reducible refine LeO.bind ?_ (fun _ => ?_))
      | exact ih0 _ _ _ _ _ _
      | exact LeO.none _
      | refine LeO.ite ?_ ?_
      | refine LeO.bind ?_ (fun _ => ?_)
set_option maxHeartbeats 8000000 in
set_option maxRecDepth 100000 in
theorem impl_bounds.calls (k : Nat) (A0 : Option Addr) (c0 : Nat) (l0 : List (S57)) (r1 : Int) (r2 : Int) (r3 : Int) (r4 : Int) (w : World) (hr0 : Kd.C k57 w A0 l0.length l0) (hc0 : l0.length ≤ c0) (h : impl_bounds.f k l0 = some (r1, r2, r3, r4)) :
    Calls Try.prog 67 #[.slice A0 l0.length c0] w fun e w' => e = .returned (.agg #[.int .i64 r1, .int .i64 r2, .int .i64 r3, .int .i64 r4]) ∧ Below w.heap.size w w' := by
  have hu36 := Try.underlying36
  have hu57 := Try.underlying57
  have HR0 := Aside0.mk hr0
  have HC0 := Aside0.mk hc0
  clear hr0 hc0
  have HB := Aside0.mk (Below.refl w.heap.size w)
  have H : (impl_bounds.l0 k l0 16 0 l0 (l0.length : Int) 0) = some (r1, r2, r3, r4) := h
  clear h
  have H' := Aside0.mk H
  clear H
  go_enter Try.func67, Try.ntmps67
  go_wp2_with (first | ((with_reducible refine gate_dst (N := 2) rfl ?_); refine box_event ?hg (N := 2) ?hd (cs := #[.int .i64 0, .int .i64 0, .int .i64 0, .int .i64 0]) (t := 36) ?hr ?_; (case hd => rfl); (case hg => rfl); (case hr => first | (go_simp; done) | (go_simp; rfl)); intro gb68001 hg w2 hbox hb; have n0_ := Aside0.mk (below_step (by repeat (first | (with_reducible first | exact HB.out | apply below_alloc | apply pw_below_drewN | apply below_drew1) | exact HB.out)) hb); have n1_ := Aside0.mk (hbox); have n2_ := Aside0.mk ((by rw [hg]; exact (below_size (by repeat (first | (with_reducible first | exact HB.out | apply below_alloc | apply pw_below_drewN | apply below_drew1) | exact HB.out))) : w.heap.size ≤ gb68001)); have n3_ := Aside0.mk ((by rw [hg]; exact (below_size (by repeat (first | (with_reducible first | exact HB.out | apply below_alloc | apply pw_below_drewN | apply below_drew1) | exact HB.out))) : w.heap.size ≤ gb68001)); clear HB; have HB := n0_; have BK68001 := n1_; have GW68001 := n2_; have GE68001 := n3_; clear n0_ n1_ n2_ n3_; clear hb hbox hg))
  repeat (go_quiet (first | ((with_reducible refine gate_dst (N := 2) rfl ?_); refine box_event ?hg (N := 2) ?hd (cs := #[.int .i64 0, .int .i64 0, .int .i64 0, .int .i64 0]) (t := 36) ?hr ?_; (case hd => rfl); (case hg => rfl); (case hr => first | (go_simp; done) | (go_simp; rfl)); intro gb68001 hg w2 hbox hb; have n0_ := Aside0.mk (below_step (by repeat (first | (with_reducible first | exact HB.out | apply below_alloc | apply pw_below_drewN | apply below_drew1) | exact HB.out)) hb); have n1_ := Aside0.mk (hbox); have n2_ := Aside0.mk ((by rw [hg]; exact (below_size (by repeat (first | (with_reducible first | exact HB.out | apply below_alloc | apply pw_below_drewN | apply below_drew1) | exact HB.out))) : w.heap.size ≤ gb68001)); have n3_ := Aside0.mk ((by rw [hg]; exact (below_size (by repeat (first | (with_reducible first | exact HB.out | apply below_alloc | apply pw_below_drewN | apply below_drew1) | exact HB.out))) : w.heap.size ≤ gb68001)); clear HB; have HB := n0_; have BK68001 := n1_; have GW68001 := n2_; have GE68001 := n3_; clear n0_ n1_ n2_ n3_; clear hb hbox hg)); try go_wp2_with (first | ((with_reducible refine gate_dst (N := 2) rfl ?_); refine box_event ?hg (N := 2) ?hd (cs := #[.int .i64 0, .int .i64 0, .int .i64 0, .int .i64 0]) (t := 36) ?hr ?_; (case hd => rfl); (case hg => rfl); (case hr => first | (go_simp; done) | (go_simp; rfl)); intro gb68001 hg w2 hbox hb; have n0_ := Aside0.mk (below_step (by repeat (first | (with_reducible first | exact HB.out | apply below_alloc | apply pw_below_drewN | apply below_drew1) | exact HB.out)) hb); have n1_ := Aside0.mk (hbox); have n2_ := Aside0.mk ((by rw [hg]; exact (below_size (by repeat (first | (with_reducible first | exact HB.out | apply below_alloc | apply pw_below_drewN | apply below_drew1) | exact HB.out))) : w.heap.size ≤ gb68001)); have n3_ := Aside0.mk ((by rw [hg]; exact (below_size (by repeat (first | (with_reducible first | exact HB.out | apply below_alloc | apply pw_below_drewN | apply below_drew1) | exact HB.out))) : w.heap.size ≤ gb68001)); clear HB; have HB := n0_; have BK68001 := n1_; have GW68001 := n2_; have GE68001 := n3_; clear n0_ n1_ n2_ n3_; clear hb hbox hg)))
  go_loopg [3, 4, 11] k (fun kq v3 v4 v11 w' => ∃ (x3_1 : Int) (x4_1 : Int) (x11_1 : Int), v3 = .int .i64 x3_1 ∧ v4 = .int .i64 x4_1 ∧ v11 = .int .i64 x11_1 ∧ Aside0 (impl_bounds.l0 kq l0 x3_1 x4_1 l0 (l0.length : Int) x11_1 = some (r1, r2, r3, r4)) ∧ Aside0 (kq ≤ k) ∧ Aside0 (w'.heap[gb68001]? = some (.cells #[.int .i64 0, .int .i64 0, .int .i64 0, .int .i64 0] 36 (0, 0))) ∧ Aside0 (Below w.heap.size w w'))
  case atStart => exact ⟨(16), (0), (0), (by first | rfl | (simp; done) | (simp [*]; done)), (by first | rfl | (simp; done) | (simp [*]; done)), (by first | rfl | (simp; done) | (simp [*]; done)), H', ⟨Nat.le_refl _⟩, ⟨by (with_reducible repeat (first | refine blk_drewN ?_ _ | refine blk_drew ?_ | refine blk_alloc ?_ _)); exact BK68001.out⟩, ⟨by repeat (first | (with_reducible first | exact HB.out | apply below_alloc | apply pw_below_drewN | apply below_drew1 | refine below_set ?_ GE68001.out) | exact HB.out)⟩⟩
  case round =>
    clear H'
    try clear p2
    obtain ⟨x3_1, x4_1, x11_1, rfl, rfl, rfl, HA, HK1, BK68001, HB⟩ := hrel
    cases gk with
    | zero => exact absurd HA.out (by simp [impl_bounds.l0])
    | succ k1 =>
      have H := HA.out
      clear HA
      simp only [impl_bounds.l0] at H
      by_cases c3 : x11_1 < (l0.length : Int)
      · rw [if_pos c3] at H
        have c3b0 : decide (x11_1 < (l0.length : Int)) = true := decide_eq_true c3
        clear c3
        by_cases c4 : 0 ≤ x11_1
        · rw [if_pos c4] at H
          have c4b0 : decide (0 ≤ x11_1) = true := decide_eq_true c4
          clear c4
          by_cases c5 : x11_1 < (l0.length : Int)
          · rw [if_pos c5] at H
            have c5b0 : decide (x11_1 < (l0.length : Int)) = true := decide_eq_true c5
            clear c5
            obtain ⟨ji6, hji6⟩ : ∃ j_ : Int, (mn x3_1 ((rd_T57 l0 x11_1).f1)) = j_ := ⟨_, rfl⟩
            replace H : (impl_bounds.l0 k1 l0 ji6 (mx x4_1 ((rd_T57 l0 x11_1).f2)) l0 (l0.length : Int) (wrap64 (x11_1 + 1))) = some (r1, r2, r3, r4) := by first | (rw [hji6] at H; exact H) | (simp only [hji6] at H ⊢; exact H)
            have hji6_ : (if ((rd_T57 l0 x11_1).f1) < x3_1 then ((rd_T57 l0 x11_1).f1) else x3_1) = ji6 := hji6
            obtain ⟨ji7, hji7⟩ : ∃ j_ : Int, (mx x4_1 ((rd_T57 l0 x11_1).f2)) = j_ := ⟨_, rfl⟩
            replace H : (impl_bounds.l0 k1 l0 ji6 ji7 l0 (l0.length : Int) (wrap64 (x11_1 + 1))) = some (r1, r2, r3, r4) := by first | (rw [hji7] at H; exact H) | (simp only [hji7] at H ⊢; exact H)
            have hji7_ : (if x4_1 < ((rd_T57 l0 x11_1).f2) then ((rd_T57 l0 x11_1).f2) else x4_1) = ji7 := hji7
            have H' := Aside0.mk H
            clear H
            have p68002 : 0 ≤ (x11_1 : Int) := of_decide_eq_true (by first | (with_reducible assumption) | assumption)
            have q68002 : x11_1 < (l0.length : Int) := of_decide_eq_true (by first | (with_reducible assumption) | assumption)
            obtain ⟨ad68002, e68002, hx68002_0, hx68002_1, hx68002_2⟩ := at_T57 HR0.out x11_1 p68002 q68002
            cases e68002
            replace hx68002_0 := (HB.out.cell (World.block_lt_of_cell? w _ hx68002_0)).trans hx68002_0
            replace hx68002_1 := (HB.out.cell (World.block_lt_of_cell? w _ hx68002_1)).trans hx68002_1
            replace hx68002_2 := (HB.out.cell (World.block_lt_of_cell? w _ hx68002_2)).trans hx68002_2
            replace p68002 := eq_true p68002
            replace q68002 := eq_true q68002
            go_wp2_with (first | ((with_reducible refine gate_dst (N := 6) rfl ?_); refine box_event ?hg (N := 6) ?hd (cs := #[.int .i64 0, .int .i64 0, .int .i64 0]) (t := 57) ?hr ?_; (case hd => rfl); (case hg => rfl); (case hr => first | (go_simp; done) | (go_simp; rfl)); intro gb68003 hg w8 hbox hb; have n0_ := Aside0.mk (blk_below (g := gb68001) (o := .cells #[.int .i64 0, .int .i64 0, .int .i64 0, .int .i64 0] 36 (0, 0)) (by (with_reducible repeat (first | refine blk_drewN ?_ _ | refine blk_drew ?_ | refine blk_alloc ?_ _)); exact BK68001.out) hb); have n1_ := Aside0.mk (below_step (by repeat (first | (with_reducible first | exact HB.out | apply below_alloc | apply pw_below_drewN | apply below_drew1 | refine below_set ?_ GE68001.out) | exact HB.out)) hb); have n2_ := Aside0.mk (hbox); have n3_ := Aside0.mk ((by rw [hg]; exact (below_size (by repeat (first | (with_reducible first | exact HB.out | apply below_alloc | apply pw_below_drewN | apply below_drew1 | refine below_set ?_ GE68001.out) | exact HB.out))) : w.heap.size ≤ gb68003)); have n4_ := Aside0.mk ((by rw [hg]; exact (below_size (by repeat (first | (with_reducible first | exact HB.out | apply below_alloc | apply pw_below_drewN | apply below_drew1 | refine below_set ?_ GE68001.out) | exact HB.out))) : w.heap.size ≤ gb68003)); have n5_ := Aside0.mk ((by rw [hg]; exact Nat.ne_of_lt (blk_lt (g := gb68001) (o := .cells #[.int .i64 0, .int .i64 0, .int .i64 0, .int .i64 0] 36 (0, 0)) (by (with_reducible repeat (first | refine blk_drewN ?_ _ | refine blk_drew ?_ | refine blk_alloc ?_ _)); exact BK68001.out)) : gb68001 ≠ gb68003)); have n6_ := Aside0.mk ((by rw [hg]; exact Nat.ne_of_gt (blk_lt (g := gb68001) (o := .cells #[.int .i64 0, .int .i64 0, .int .i64 0, .int .i64 0] 36 (0, 0)) (by (with_reducible repeat (first | refine blk_drewN ?_ _ | refine blk_drew ?_ | refine blk_alloc ?_ _)); exact BK68001.out)) : gb68003 ≠ gb68001)); clear BK68001; clear HB; have BK68001 := n0_; have HB := n1_; have BK68003 := n2_; have GW68003 := n3_; have GE68003 := n4_; have NB68001_68003 := n5_; have NB68003_68001 := n6_; clear n0_ n1_ n2_ n3_ n4_ n5_ n6_; clear hb hbox hg; have hnb9 := NB68003_68001.out; have hnc9 := NB68001_68003.out; have hcz10_0 : w8.cell? ⟨gb68003, 0, none⟩ = some (.int .i64 0) := (blk_cell BK68003.out 0).trans rfl; have hcz10_1 : w8.cell? ⟨gb68003, 1, none⟩ = some (.int .i64 0) := (blk_cell BK68003.out 1).trans rfl; have hcz10_2 : w8.cell? ⟨gb68003, 2, none⟩ = some (.int .i64 0) := (blk_cell BK68003.out 2).trans rfl; have hfz10_0 := blk_frozen BK68003.out 0; have hfz10_1 := blk_frozen BK68003.out 1; have hfz10_2 := blk_frozen BK68003.out 2))
            repeat (go_quiet (first | ((with_reducible refine gate_dst (N := 6) rfl ?_); refine box_event ?hg (N := 6) ?hd (cs := #[.int .i64 0, .int .i64 0, .int .i64 0]) (t := 57) ?hr ?_; (case hd => rfl); (case hg => rfl); (case hr => first | (go_simp; done) | (go_simp; rfl)); intro gb68003 hg w8 hbox hb; have n0_ := Aside0.mk (blk_below (g := gb68001) (o := .cells #[.int .i64 0, .int .i64 0, .int .i64 0, .int .i64 0] 36 (0, 0)) (by (with_reducible repeat (first | refine blk_drewN ?_ _ | refine blk_drew ?_ | refine blk_alloc ?_ _)); exact BK68001.out) hb); have n1_ := Aside0.mk (below_step (by repeat (first | (with_reducible first | exact HB.out | apply below_alloc | apply pw_below_drewN | apply below_drew1 | refine below_set ?_ GE68001.out) | exact HB.out)) hb); have n2_ := Aside0.mk (hbox); have n3_ := Aside0.mk ((by rw [hg]; exact (below_size (by repeat (first | (with_reducible first | exact HB.out | apply below_alloc | apply pw_below_drewN | apply below_drew1 | refine below_set ?_ GE68001.out) | exact HB.out))) : w.heap.size ≤ gb68003)); have n4_ := Aside0.mk ((by rw [hg]; exact (below_size (by repeat (first | (with_reducible first | exact HB.out | apply below_alloc | apply pw_below_drewN | apply below_drew1 | refine below_set ?_ GE68001.out) | exact HB.out))) : w.heap.size ≤ gb68003)); have n5_ := Aside0.mk ((by rw [hg]; exact Nat.ne_of_lt (blk_lt (g := gb68001) (o := .cells #[.int .i64 0, .int .i64 0, .int .i64 0, .int .i64 0] 36 (0, 0)) (by (with_reducible repeat (first | refine blk_drewN ?_ _ | refine blk_drew ?_ | refine blk_alloc ?_ _)); exact BK68001.out)) : gb68001 ≠ gb68003)); have n6_ := Aside0.mk ((by rw [hg]; exact Nat.ne_of_gt (blk_lt (g := gb68001) (o := .cells #[.int .i64 0, .int .i64 0, .int .i64 0, .int .i64 0] 36 (0, 0)) (by (with_reducible repeat (first | refine blk_drewN ?_ _ | refine blk_drew ?_ | refine blk_alloc ?_ _)); exact BK68001.out)) : gb68003 ≠ gb68001)); clear BK68001; clear HB; have BK68001 := n0_; have HB := n1_; have BK68003 := n2_; have GW68003 := n3_; have GE68003 := n4_; have NB68001_68003 := n5_; have NB68003_68001 := n6_; clear n0_ n1_ n2_ n3_ n4_ n5_ n6_; clear hb hbox hg; have hnb9 := NB68003_68001.out; have hnc9 := NB68001_68003.out; have hcz10_0 : w8.cell? ⟨gb68003, 0, none⟩ = some (.int .i64 0) := (blk_cell BK68003.out 0).trans rfl; have hcz10_1 : w8.cell? ⟨gb68003, 1, none⟩ = some (.int .i64 0) := (blk_cell BK68003.out 1).trans rfl; have hcz10_2 : w8.cell? ⟨gb68003, 2, none⟩ = some (.int .i64 0) := (blk_cell BK68003.out 2).trans rfl; have hfz10_0 := blk_frozen BK68003.out 0; have hfz10_1 := blk_frozen BK68003.out 1; have hfz10_2 := blk_frozen BK68003.out 2)); try go_wp2_with (first | ((with_reducible refine gate_dst (N := 6) rfl ?_); refine box_event ?hg (N := 6) ?hd (cs := #[.int .i64 0, .int .i64 0, .int .i64 0]) (t := 57) ?hr ?_; (case hd => rfl); (case hg => rfl); (case hr => first | (go_simp; done) | (go_simp; rfl)); intro gb68003 hg w8 hbox hb; have n0_ := Aside0.mk (blk_below (g := gb68001) (o := .cells #[.int .i64 0, .int .i64 0, .int .i64 0, .int .i64 0] 36 (0, 0)) (by (with_reducible repeat (first | refine blk_drewN ?_ _ | refine blk_drew ?_ | refine blk_alloc ?_ _)); exact BK68001.out) hb); have n1_ := Aside0.mk (below_step (by repeat (first | (with_reducible first | exact HB.out | apply below_alloc | apply pw_below_drewN | apply below_drew1 | refine below_set ?_ GE68001.out) | exact HB.out)) hb); have n2_ := Aside0.mk (hbox); have n3_ := Aside0.mk ((by rw [hg]; exact (below_size (by repeat (first | (with_reducible first | exact HB.out | apply below_alloc | apply pw_below_drewN | apply below_drew1 | refine below_set ?_ GE68001.out) | exact HB.out))) : w.heap.size ≤ gb68003)); have n4_ := Aside0.mk ((by rw [hg]; exact (below_size (by repeat (first | (with_reducible first | exact HB.out | apply below_alloc | apply pw_below_drewN | apply below_drew1 | refine below_set ?_ GE68001.out) | exact HB.out))) : w.heap.size ≤ gb68003)); have n5_ := Aside0.mk ((by rw [hg]; exact Nat.ne_of_lt (blk_lt (g := gb68001) (o := .cells #[.int .i64 0, .int .i64 0, .int .i64 0, .int .i64 0] 36 (0, 0)) (by (with_reducible repeat (first | refine blk_drewN ?_ _ | refine blk_drew ?_ | refine blk_alloc ?_ _)); exact BK68001.out)) : gb68001 ≠ gb68003)); have n6_ := Aside0.mk ((by rw [hg]; exact Nat.ne_of_gt (blk_lt (g := gb68001) (o := .cells #[.int .i64 0, .int .i64 0, .int .i64 0, .int .i64 0] 36 (0, 0)) (by (with_reducible repeat (first | refine blk_drewN ?_ _ | refine blk_drew ?_ | refine blk_alloc ?_ _)); exact BK68001.out)) : gb68003 ≠ gb68001)); clear BK68001; clear HB; have BK68001 := n0_; have HB := n1_; have BK68003 := n2_; have GW68003 := n3_; have GE68003 := n4_; have NB68001_68003 := n5_; have NB68003_68001 := n6_; clear n0_ n1_ n2_ n3_ n4_ n5_ n6_; clear hb hbox hg; have hnb9 := NB68003_68001.out; have hnc9 := NB68001_68003.out; have hcz10_0 : w8.cell? ⟨gb68003, 0, none⟩ = some (.int .i64 0) := (blk_cell BK68003.out 0).trans rfl; have hcz10_1 : w8.cell? ⟨gb68003, 1, none⟩ = some (.int .i64 0) := (blk_cell BK68003.out 1).trans rfl; have hcz10_2 : w8.cell? ⟨gb68003, 2, none⟩ = some (.int .i64 0) := (blk_cell BK68003.out 2).trans rfl; have hfz10_0 := blk_frozen BK68003.out 0; have hfz10_1 := blk_frozen BK68003.out 1; have hfz10_2 := blk_frozen BK68003.out 2)))
            go_roundg k1
            case measure => have := HK1.out; omega
            case rel => exact ⟨(ji6), (ji7), (wrap64 (x11_1 + 1)), (by first | rfl | (simp; done) | (simp only [← hji6] <;> (first | rfl | simp)) | (simp [*]; done)), (by first | rfl | (simp; done) | (simp only [← hji7] <;> (first | rfl | simp)) | (simp [*]; done)), (by first | rfl | (simp; done) | (simp [*]; done)), H', ⟨by have := HK1.out; omega⟩, ⟨by (with_reducible repeat (first | refine blk_drewN ?_ _ | refine blk_drew ?_ | refine blk_alloc ?_ _)); refine blk_far ?_ NB68001_68003.out _; (with_reducible repeat (first | refine blk_drewN ?_ _ | refine blk_drew ?_ | refine blk_alloc ?_ _)); refine blk_far ?_ NB68001_68003.out _; (with_reducible repeat (first | refine blk_drewN ?_ _ | refine blk_drew ?_ | refine blk_alloc ?_ _)); refine blk_far ?_ NB68001_68003.out _; (with_reducible repeat (first | refine blk_drewN ?_ _ | refine blk_drew ?_ | refine blk_alloc ?_ _)); exact BK68001.out⟩, ⟨by repeat (first | (with_reducible first | exact HB.out | apply below_alloc | apply pw_below_drewN | apply below_drew1 | refine below_set ?_ GE68001.out | refine below_set ?_ GE68003.out) | exact HB.out)⟩⟩
          · rw [if_neg c5] at H
            exact absurd H (by simp)
        · rw [if_neg c4] at H
          exact absurd H (by simp)
      · rw [if_neg c3] at H
        have c3b0 : decide (x11_1 < (l0.length : Int)) = false := decide_eq_false c3
        clear c3
        by_cases c11 : 0 < (l0.length : Int)
        · rw [if_pos c11] at H
          have c11b0 : decide (0 < (l0.length : Int)) = true := decide_eq_true c11
          have c11b1 : decide (0 < l0.length) = true := decide_eq_true (by omega)
          clear c11
          obtain ⟨ji12, hji12⟩ : ∃ j_ : Int, (wrap64 ((l0.length : Int) - 1)) = j_ := ⟨_, rfl⟩
          replace H : (if 0 ≤ (ji12) then (if (ji12) < (l0.length : Int) then (some (x3_1, (rd_T57 l0 0).f0, wrap64 (x4_1 - x3_1), wrap64 ((wrap64 (((rd_T57 l0 (ji12)).f0) - ((rd_T57 l0 0).f0))) + 1))) else (none)) else (none)) = some (r1, r2, r3, r4) := by first | (rw [hji12] at H; exact H) | (simp only [hji12] at H ⊢; exact H)
          have hji12w : (IntKind.i64.wrap ((l0.length : Int) - 1)) = ji12 := (i64_w _).trans hji12
          by_cases c13 : 0 ≤ (ji12)
          · rw [if_pos c13] at H
            have c13b0 : decide (0 ≤ (ji12)) = true := decide_eq_true c13
            clear c13
            by_cases c14 : (ji12) < (l0.length : Int)
            · rw [if_pos c14] at H
              have c14b0 : decide ((ji12) < (l0.length : Int)) = true := decide_eq_true c14
              clear c14
              simp only [Option.some.injEq, Prod.mk.injEq] at H
              obtain ⟨rfl, rfl, rfl, rfl⟩ := H
              have p68004 : 0 ≤ (0 : Int) := (by omega)
              have q68004 : 0 < (l0.length : Int) := of_decide_eq_true (by first | (with_reducible assumption) | assumption)
              obtain ⟨ad68004, e68004, hx68004_0, hx68004_1, hx68004_2⟩ := at_T57 HR0.out 0 p68004 q68004
              cases e68004
              have qi68004 : (0 < l0.length) = True := eq_true (by omega)
              (try rw [show ((0 : Int)).toNat = 0 from rfl] at hx68004_0)
              (try rw [show 0 * 3 = 0 from rfl] at hx68004_0)
              (try rw [Addr.add_zero'] at hx68004_0)
              (try rw [show ((0 : Int)).toNat = 0 from rfl] at hx68004_1)
              (try rw [show 0 * 3 = 0 from rfl] at hx68004_1)
              (try rw [Addr.add_zero'] at hx68004_1)
              (try rw [show ((0 : Int)).toNat = 0 from rfl] at hx68004_2)
              (try rw [show 0 * 3 = 0 from rfl] at hx68004_2)
              (try rw [Addr.add_zero'] at hx68004_2)
              replace hx68004_0 := (HB.out.cell (World.block_lt_of_cell? w _ hx68004_0)).trans hx68004_0
              replace hx68004_1 := (HB.out.cell (World.block_lt_of_cell? w _ hx68004_1)).trans hx68004_1
              replace hx68004_2 := (HB.out.cell (World.block_lt_of_cell? w _ hx68004_2)).trans hx68004_2
              replace p68004 := eq_true p68004
              replace q68004 := eq_true q68004
              have p68005 : 0 ≤ ((ji12) : Int) := of_decide_eq_true (by first | (with_reducible assumption) | assumption)
              have q68005 : (ji12) < (l0.length : Int) := of_decide_eq_true (by first | (with_reducible assumption) | assumption)
              obtain ⟨ad68005, e68005, hx68005_0, hx68005_1, hx68005_2⟩ := at_T57 HR0.out (ji12) p68005 q68005
              obtain rfl : ad68004 = ad68005 := (by injection e68005)
              replace hx68005_0 := (HB.out.cell (World.block_lt_of_cell? w _ hx68005_0)).trans hx68005_0
              replace hx68005_1 := (HB.out.cell (World.block_lt_of_cell? w _ hx68005_1)).trans hx68005_1
              replace hx68005_2 := (HB.out.cell (World.block_lt_of_cell? w _ hx68005_2)).trans hx68005_2
              replace p68005 := eq_true p68005
              replace q68005 := eq_true q68005
              have hcz15_0 : wr.cell? ⟨gb68001, 0, none⟩ = some (.int .i64 0) := (blk_cell BK68001.out 0).trans rfl
              have hcz15_1 : wr.cell? ⟨gb68001, 1, none⟩ = some (.int .i64 0) := (blk_cell BK68001.out 1).trans rfl
              have hcz15_2 : wr.cell? ⟨gb68001, 2, none⟩ = some (.int .i64 0) := (blk_cell BK68001.out 2).trans rfl
              have hcz15_3 : wr.cell? ⟨gb68001, 3, none⟩ = some (.int .i64 0) := (blk_cell BK68001.out 3).trans rfl
              have hfz15_0 := blk_frozen BK68001.out 0
              have hfz15_1 := blk_frozen BK68001.out 1
              have hfz15_2 := blk_frozen BK68001.out 2
              have hfz15_3 := blk_frozen BK68001.out 3
              go_wp2
              repeat (go_quiet (fail); try go_wp2)
              refine bodyPost_ret (results_cell_row rfl _ _ gb68001 36 #[.int .i64 x3_1, .int .i64 ((rd_T57 l0 0).f0), .int .i64 (wrap64 (x4_1 - x3_1)), .int .i64 (wrap64 ((wrap64 (((rd_T57 l0 (ji12)).f0) - ((rd_T57 l0 0).f0))) + 1))] (0, 0) _ rfl (by (with_reducible repeat (first | refine blk_drewN ?_ _ | refine blk_drew ?_ | refine blk_alloc ?_ _)); refine blk_put (cs := #[.int .i64 x3_1, .int .i64 ((rd_T57 l0 0).f0), .int .i64 (wrap64 (x4_1 - x3_1)), .int .i64 0]) ?_ 3 _ rfl; (with_reducible repeat (first | refine blk_drewN ?_ _ | refine blk_drew ?_ | refine blk_alloc ?_ _)); refine blk_put (cs := #[.int .i64 x3_1, .int .i64 ((rd_T57 l0 0).f0), .int .i64 0, .int .i64 0]) ?_ 2 _ rfl; (with_reducible repeat (first | refine blk_drewN ?_ _ | refine blk_drew ?_ | refine blk_alloc ?_ _)); refine blk_put (cs := #[.int .i64 x3_1, .int .i64 0, .int .i64 0, .int .i64 0]) ?_ 1 _ rfl; (with_reducible repeat (first | refine blk_drewN ?_ _ | refine blk_drew ?_ | refine blk_alloc ?_ _)); refine blk_put (cs := #[.int .i64 0, .int .i64 0, .int .i64 0, .int .i64 0]) ?_ 0 _ rfl; (with_reducible repeat (first | refine blk_drewN ?_ _ | refine blk_drew ?_ | refine blk_alloc ?_ _)); exact BK68001.out) Try.underlying36 rfl (by kernel_rfl)) rfl ?_
              exact ⟨by first | rfl | (simp [errW_none, errW_some] <;> rfl) | (simp only [← hji12]; first | rfl | (simp [errW_none, errW_some] <;> rfl)) | (simp [*, errW_none, errW_some] <;> rfl), by repeat (first | (with_reducible first | exact HB.out | apply below_alloc | apply pw_below_drewN | apply below_drew1 | refine below_set ?_ GE68001.out) | exact HB.out)⟩
            · rw [if_neg c14] at H
              exact absurd H (by simp)
          · rw [if_neg c13] at H
            exact absurd H (by simp)
        · rw [if_neg c11] at H
          exact absurd H (by simp)

end Go.Proofs.Ytfgeickfheogoaa.Q

namespace Go.Proofs.Ytfgeickfheogoaa.Q
open Go.RowKit Go.Proofs.YtfgeickfheogoaaW.PrintWords Go.Proofs.YtfgeickfheogoaaW.PrintLast Go.Proofs.YtfgeickfheogoaaW.PrintMore
attribute [local go_sem] max2_int min2_int max_two min_two max_three min_three max_four min_four
set_option linter.unusedVariables false
set_option linter.unusedSimpArgs false
/-! ### impl_BoundsOf: function 32 -/
def impl_BoundsOf.f (k : Nat) (l0 : List (S57)) : Option (Int × Int × Int × Int × Bool) := (impl_isRegion.f k l0).bind fun t33002 => (if t33002 = true then (if (l0.length : Int) = 0 then (some (0, 0, 0, 0, false)) else ((impl_bounds.f k l0).bind fun bt33003 => (some (bt33003.1, bt33003.2.1, bt33003.2.2.1, bt33003.2.2.2, true)))) else (some (0, 0, 0, 0, false)))
theorem impl_BoundsOf.mono : ∀ a0 k, LeO (impl_BoundsOf.f k a0) (impl_BoundsOf.f (k + 1) a0) := by
  intro a0 k
  unfold impl_BoundsOf.f
  repeat' first
      | (with_reducible exact impl_bounds.mono _ _)
      | (with_reducible exact impl_isRegion.mono _ _)
      | (with_reducible exact LeO.refl _)
      | (with_reducible exact LeO.none _)
      | (with_reducible refine LeO.ite ?_ ?_)
      | (with_reducible refine LeO.bind ?_ (fun _ => ?_))
      | exact impl_bounds.mono _ _
      | exact impl_isRegion.mono _ _
      | exact LeO.none _
      | refine LeO.ite ?_ ?_
      | refine LeO.bind ?_ (fun _ => ?_)
set_option maxHeartbeats 8000000 in
set_option maxRecDepth 100000 in
theorem impl_BoundsOf.calls (k : Nat) (A0 : Option Addr) (c0 : Nat) (l0 : List (S57)) (r1 : Int) (r2 : Int) (r3 : Int) (r4 : Int) (r5 : Bool) (w : World) (hr0 : Kd.C k57 w A0 l0.length l0) (hc0 : l0.length ≤ c0) (h : impl_BoundsOf.f k l0 = some (r1, r2, r3, r4, r5)) :
    Calls Try.prog 32 #[.slice A0 l0.length c0] w fun e w' => e = .returned (.tuple #[.agg #[.int .i64 r1, .int .i64 r2, .int .i64 r3, .int .i64 r4], .bool r5]) ∧ Below w.heap.size w w' := by
  have hu36 := Try.underlying36
  have HR0 := Aside0.mk hr0
  have HC0 := Aside0.mk hc0
  clear hr0 hc0
  have HB := Aside0.mk (Below.refl w.heap.size w)
  have H : ((impl_isRegion.f k l0).bind fun t33002 => (if t33002 = true then (if (l0.length : Int) = 0 then (some (0, 0, 0, 0, false)) else ((impl_bounds.f k l0).bind fun bt33003 => (some (bt33003.1, bt33003.2.1, bt33003.2.2.1, bt33003.2.2.2, true)))) else (some (0, 0, 0, 0, false)))) = some (r1, r2, r3, r4, r5) := h
  clear h
  replace H := Option.bind_eq_some_iff.mp H
  obtain ⟨t33002, A20, H⟩ := H
  replace H : (if t33002 = true then (if (l0.length : Int) = 0 then (some (0, 0, 0, 0, false)) else ((impl_bounds.f k l0).bind fun bt33003 => (some (bt33003.1, bt33003.2.1, bt33003.2.2.1, bt33003.2.2.2, true)))) else (some (0, 0, 0, 0, false))) = some (r1, r2, r3, r4, r5) := H
  have A2 := Aside0.mk A20
  clear A20
  by_cases c3 : t33002 = true
  · subst c3
    have H1 : (if (l0.length : Int) = 0 then (some (0, 0, 0, 0, false)) else ((impl_bounds.f k l0).bind fun bt33003 => (some (bt33003.1, bt33003.2.1, bt33003.2.2.1, bt33003.2.2.2, true)))) = some (r1, r2, r3, r4, r5) := by rw [if_pos rfl] at H; exact H
    clear H
    have H := H1
    clear H1
    by_cases c4 : (l0.length : Int) = 0
    · rw [if_pos c4] at H
      have c4b0 : ((l0.length : Int) == 0) = true := beq_iff_eq.mpr c4
      have c4b1 : ((l0.length : Int) != 0) = false := bne_eq_false_iff_eq.mpr c4
      clear c4
      simp only [Option.some.injEq, Prod.mk.injEq] at H
      obtain ⟨rfl, rfl, rfl, rfl, rfl⟩ := H
      go_enter Try.func32, Try.ntmps32
      go_wp2_with (first | ((with_reducible refine gate_dst (N := 2) rfl ?_); (try (refine gate_guard (by rfl) ?_; dsimp only)); refine box_event ?hg (N := 2) ?hd (cs := #[.int .i64 0, .int .i64 0, .int .i64 0, .int .i64 0]) (t := 36) ?hr ?_; (case hd => rfl); (case hg => rfl); (case hr => first | (go_simp; done) | (go_simp; rfl)); intro gb33001 hg w5 hbox hb; have n0_ := Aside0.mk (below_step (by repeat (first | (with_reducible first | exact HB.out | apply below_alloc | apply pw_below_drewN | apply below_drew1) | exact HB.out)) hb); have n1_ := Aside0.mk (hbox); have n2_ := Aside0.mk ((by rw [hg]; exact (below_size (by repeat (first | (with_reducible first | exact HB.out | apply below_alloc | apply pw_below_drewN | apply below_drew1) | exact HB.out))) : w.heap.size ≤ gb33001)); have n3_ := Aside0.mk ((by rw [hg]; exact (below_size (by repeat (first | (with_reducible first | exact HB.out | apply below_alloc | apply pw_below_drewN | apply below_drew1) | exact HB.out))) : w.heap.size ≤ gb33001)); clear HB; have HB := n0_; have BK33001 := n1_; have GW33001 := n2_; have GE33001 := n3_; clear n0_ n1_ n2_ n3_; clear hb hbox hg) | ((with_reducible refine gate_callee (f := 55) rfl ?_); refine goesL_ (some 5) rfl rfl Try.func55 (by kernel_rfl) rfl #[.slice A0 l0.length c0] rfl (by (try simp only [List.map_toArray, List.map_cons, List.map_nil]); first | done | rfl | (simp only [List.length_drop, List.length_take]; rfl)) ?_; (with_reducible refine (impl_isRegion.calls k _ _ l0 true _ ?side1 ?side2 A2.out).mono ?_); (case side1 => repeat (first | exact (Kd.C_below HR0.out HB.out) | (with_reducible refine Kd.C_alloc ?_ _) | (with_reducible refine Kd.C_drewN ?_ _) | (with_reducible refine Kd.C_drew ?_))); (case side2 => exact HC0.out); rintro e w6 ⟨rfl, hb⟩; refine ⟨_, rfl, ?_⟩; have n0_ := Aside0.mk (blk_below (g := gb33001) (o := .cells #[.int .i64 0, .int .i64 0, .int .i64 0, .int .i64 0] 36 (0, 0)) (by (with_reducible repeat (first | refine blk_drewN ?_ _ | refine blk_drew ?_ | refine blk_alloc ?_ _)); exact BK33001.out) hb); have n1_ := Aside0.mk (below_step (by repeat (first | (with_reducible first | exact HB.out | apply below_alloc | apply pw_below_drewN | apply below_drew1 | refine below_set ?_ GE33001.out) | exact HB.out)) hb); clear BK33001; clear HB; have BK33001 := n0_; have HB := n1_; clear n0_ n1_; (try clear hb); (try clear hb2); (try clear hk); (try clear hi); have hcz7_0 : w6.cell? ⟨gb33001, 0, none⟩ = some (.int .i64 0) := (blk_cell BK33001.out 0).trans rfl; have hcz7_1 : w6.cell? ⟨gb33001, 1, none⟩ = some (.int .i64 0) := (blk_cell BK33001.out 1).trans rfl; have hcz7_2 : w6.cell? ⟨gb33001, 2, none⟩ = some (.int .i64 0) := (blk_cell BK33001.out 2).trans rfl; have hcz7_3 : w6.cell? ⟨gb33001, 3, none⟩ = some (.int .i64 0) := (blk_cell BK33001.out 3).trans rfl; have hfz7_0 := blk_frozen BK33001.out 0; have hfz7_1 := blk_frozen BK33001.out 1; have hfz7_2 := blk_frozen BK33001.out 2; have hfz7_3 := blk_frozen BK33001.out 3))
      refine bodyPost_ret (results_ct rfl _ _ gb33001 36 #[.int .i64 0, .int .i64 0, .int .i64 0, .int .i64 0] (0, 0) _ rfl (by (with_reducible repeat (first | refine blk_drewN ?_ _ | refine blk_drew ?_ | refine blk_alloc ?_ _)); refine blk_put (cs := #[.int .i64 0, .int .i64 0, .int .i64 0, .int .i64 0]) ?_ 3 _ rfl; (with_reducible repeat (first | refine blk_drewN ?_ _ | refine blk_drew ?_ | refine blk_alloc ?_ _)); refine blk_put (cs := #[.int .i64 0, .int .i64 0, .int .i64 0, .int .i64 0]) ?_ 2 _ rfl; (with_reducible repeat (first | refine blk_drewN ?_ _ | refine blk_drew ?_ | refine blk_alloc ?_ _)); refine blk_put (cs := #[.int .i64 0, .int .i64 0, .int .i64 0, .int .i64 0]) ?_ 1 _ rfl; (with_reducible repeat (first | refine blk_drewN ?_ _ | refine blk_drew ?_ | refine blk_alloc ?_ _)); refine blk_put (cs := #[.int .i64 0, .int .i64 0, .int .i64 0, .int .i64 0]) ?_ 0 _ rfl; (with_reducible repeat (first | refine blk_drewN ?_ _ | refine blk_drew ?_ | refine blk_alloc ?_ _)); exact BK33001.out) Try.underlying36 rfl (by kernel_rfl)) rfl ?_
      exact ⟨by first | rfl | (simp [errW_none, errW_some] <;> rfl) | (simp [*, errW_none, errW_some] <;> rfl), by repeat (first | (with_reducible first | exact HB.out | apply below_alloc | apply pw_below_drewN | apply below_drew1 | refine below_set ?_ GE33001.out) | exact HB.out)⟩
    · rw [if_neg c4] at H
      have c4b0 : ((l0.length : Int) == 0) = false := beq_eq_false_iff_ne.mpr c4
      have c4b1 : ((l0.length : Int) != 0) = true := bne_iff_ne.mpr c4
      have c4b2 : ¬ (l0 = []) := fun h_ => c4 (by rw [h_]; rfl)
      replace H := Option.bind_eq_some_iff.mp H
      obtain ⟨⟨t33003, t33004, t33005, t33006⟩, A80, H⟩ := H
      replace H : (some (t33003, t33004, t33005, t33006, true)) = some (r1, r2, r3, r4, r5) := H
      have A8 := Aside0.mk A80
      clear A80
      simp only [Option.some.injEq, Prod.mk.injEq] at H
      obtain ⟨rfl, rfl, rfl, rfl, rfl⟩ := H
      go_enter Try.func32, Try.ntmps32
      go_wp2_with (first | ((with_reducible refine gate_dst (N := 2) rfl ?_); (try (refine gate_guard (by rfl) ?_; dsimp only)); refine box_event ?hg (N := 2) ?hd (cs := #[.int .i64 0, .int .i64 0, .int .i64 0, .int .i64 0]) (t := 36) ?hr ?_; (case hd => rfl); (case hg => rfl); (case hr => first | (go_simp; done) | (go_simp; rfl)); intro gb33001 hg w9 hbox hb; have n0_ := Aside0.mk (below_step (by repeat (first | (with_reducible first | exact HB.out | apply below_alloc | apply pw_below_drewN | apply below_drew1) | exact HB.out)) hb); have n1_ := Aside0.mk (hbox); have n2_ := Aside0.mk ((by rw [hg]; exact (below_size (by repeat (first | (with_reducible first | exact HB.out | apply below_alloc | apply pw_below_drewN | apply below_drew1) | exact HB.out))) : w.heap.size ≤ gb33001)); have n3_ := Aside0.mk ((by rw [hg]; exact (below_size (by repeat (first | (with_reducible first | exact HB.out | apply below_alloc | apply pw_below_drewN | apply below_drew1) | exact HB.out))) : w.heap.size ≤ gb33001)); clear HB; have HB := n0_; have BK33001 := n1_; have GW33001 := n2_; have GE33001 := n3_; clear n0_ n1_ n2_ n3_; clear hb hbox hg) | ((with_reducible refine gate_callee (f := 55) rfl ?_); refine goesL_ (some 5) rfl rfl Try.func55 (by kernel_rfl) rfl #[.slice A0 l0.length c0] rfl (by (try simp only [List.map_toArray, List.map_cons, List.map_nil]); first | done | rfl | (simp only [List.length_drop, List.length_take]; rfl)) ?_; (with_reducible refine (impl_isRegion.calls k _ _ l0 true _ ?side1 ?side2 A2.out).mono ?_); (case side1 => repeat (first | exact (Kd.C_below HR0.out HB.out) | (with_reducible refine Kd.C_alloc ?_ _) | (with_reducible refine Kd.C_drewN ?_ _) | (with_reducible refine Kd.C_drew ?_))); (case side2 => exact HC0.out); rintro e w10 ⟨rfl, hb⟩; refine ⟨_, rfl, ?_⟩; have n0_ := Aside0.mk (blk_below (g := gb33001) (o := .cells #[.int .i64 0, .int .i64 0, .int .i64 0, .int .i64 0] 36 (0, 0)) (by (with_reducible repeat (first | refine blk_drewN ?_ _ | refine blk_drew ?_ | refine blk_alloc ?_ _)); exact BK33001.out) hb); have n1_ := Aside0.mk (below_step (by repeat (first | (with_reducible first | exact HB.out | apply below_alloc | apply pw_below_drewN | apply below_drew1 | refine below_set ?_ GE33001.out) | exact HB.out)) hb); clear BK33001; clear HB; have BK33001 := n0_; have HB := n1_; clear n0_ n1_; (try clear hb); (try clear hb2); (try clear hk); (try clear hi)) | ((with_reducible refine gate_callee (f := 67) rfl ?_); refine goesL_ (some 14) rfl rfl Try.func67 (by kernel_rfl) rfl #[.slice A0 l0.length c0] rfl (by (try simp only [List.map_toArray, List.map_cons, List.map_nil]); first | done | rfl | (simp only [List.length_drop, List.length_take]; rfl)) ?_; (with_reducible refine (impl_bounds.calls k _ _ l0 t33003 t33004 t33005 t33006 _ ?side1 ?side2 A8.out).mono ?_); (case side1 => repeat (first | exact (Kd.C_below HR0.out HB.out) | (with_reducible refine Kd.C_alloc ?_ _) | (with_reducible refine Kd.C_drewN ?_ _) | (with_reducible refine Kd.C_drew ?_))); (case side2 => exact HC0.out); rintro e w11 ⟨rfl, hb⟩; refine ⟨_, rfl, ?_⟩; have n0_ := Aside0.mk (blk_below (g := gb33001) (o := .cells #[.int .i64 0, .int .i64 0, .int .i64 0, .int .i64 0] 36 (0, 0)) (by (with_reducible repeat (first | refine blk_drewN ?_ _ | refine blk_drew ?_ | refine blk_alloc ?_ _)); exact BK33001.out) hb); have n1_ := Aside0.mk (below_step (by repeat (first | (with_reducible first | exact HB.out | apply below_alloc | apply pw_below_drewN | apply below_drew1 | refine below_set ?_ GE33001.out) | exact HB.out)) hb); clear BK33001; clear HB; have BK33001 := n0_; have HB := n1_; clear n0_ n1_; (try clear hb); (try clear hb2); (try clear hk); (try clear hi); have hcz12_0 : w11.cell? ⟨gb33001, 0, none⟩ = some (.int .i64 0) := (blk_cell BK33001.out 0).trans rfl; have hcz12_1 : w11.cell? ⟨gb33001, 1, none⟩ = some (.int .i64 0) := (blk_cell BK33001.out 1).trans rfl; have hcz12_2 : w11.cell? ⟨gb33001, 2, none⟩ = some (.int .i64 0) := (blk_cell BK33001.out 2).trans rfl; have hcz12_3 : w11.cell? ⟨gb33001, 3, none⟩ = some (.int .i64 0) := (blk_cell BK33001.out 3).trans rfl; have hfz12_0 := blk_frozen BK33001.out 0; have hfz12_1 := blk_frozen BK33001.out 1; have hfz12_2 := blk_frozen BK33001.out 2; have hfz12_3 := blk_frozen BK33001.out 3))
      refine bodyPost_ret (results_ct rfl _ _ gb33001 36 #[.int .i64 t33003, .int .i64 t33004, .int .i64 t33005, .int .i64 t33006] (0, 0) _ rfl (by (with_reducible repeat (first | refine blk_drewN ?_ _ | refine blk_drew ?_ | refine blk_alloc ?_ _)); refine blk_put (cs := #[.int .i64 t33003, .int .i64 t33004, .int .i64 t33005, .int .i64 0]) ?_ 3 _ rfl; (with_reducible repeat (first | refine blk_drewN ?_ _ | refine blk_drew ?_ | refine blk_alloc ?_ _)); refine blk_put (cs := #[.int .i64 t33003, .int .i64 t33004, .int .i64 0, .int .i64 0]) ?_ 2 _ rfl; (with_reducible repeat (first | refine blk_drewN ?_ _ | refine blk_drew ?_ | refine blk_alloc ?_ _)); refine blk_put (cs := #[.int .i64 t33003, .int .i64 0, .int .i64 0, .int .i64 0]) ?_ 1 _ rfl; (with_reducible repeat (first | refine blk_drewN ?_ _ | refine blk_drew ?_ | refine blk_alloc ?_ _)); refine blk_put (cs := #[.int .i64 0, .int .i64 0, .int .i64 0, .int .i64 0]) ?_ 0 _ rfl; (with_reducible repeat (first | refine blk_drewN ?_ _ | refine blk_drew ?_ | refine blk_alloc ?_ _)); exact BK33001.out) Try.underlying36 rfl (by kernel_rfl)) rfl ?_
      exact ⟨by first | rfl | (simp [errW_none, errW_some] <;> rfl) | (simp [*, errW_none, errW_some] <;> rfl), by repeat (first | (with_reducible first | exact HB.out | apply below_alloc | apply pw_below_drewN | apply below_drew1 | refine below_set ?_ GE33001.out) | exact HB.out)⟩
  · replace c3 := Bool.eq_false_iff.mpr c3
    subst c3
    have H1 : (some (0, 0, 0, 0, false)) = some (r1, r2, r3, r4, r5) := by rw [if_neg (show ¬ (false = true) by decide)] at H; exact H
    clear H
    have H := H1
    clear H1
    simp only [Option.some.injEq, Prod.mk.injEq] at H
    obtain ⟨rfl, rfl, rfl, rfl, rfl⟩ := H
    go_enter Try.func32, Try.ntmps32
    go_wp2_with (first | ((with_reducible refine gate_dst (N := 2) rfl ?_); (try (refine gate_guard (by rfl) ?_; dsimp only)); refine box_event ?hg (N := 2) ?hd (cs := #[.int .i64 0, .int .i64 0, .int .i64 0, .int .i64 0]) (t := 36) ?hr ?_; (case hd => rfl); (case hg => rfl); (case hr => first | (go_simp; done) | (go_simp; rfl)); intro gb33001 hg w13 hbox hb; have n0_ := Aside0.mk (below_step (by repeat (first | (with_reducible first | exact HB.out | apply below_alloc | apply pw_below_drewN | apply below_drew1) | exact HB.out)) hb); have n1_ := Aside0.mk (hbox); have n2_ := Aside0.mk ((by rw [hg]; exact (below_size (by repeat (first | (with_reducible first | exact HB.out | apply below_alloc | apply pw_below_drewN | apply below_drew1) | exact HB.out))) : w.heap.size ≤ gb33001)); have n3_ := Aside0.mk ((by rw [hg]; exact (below_size (by repeat (first | (with_reducible first | exact HB.out | apply below_alloc | apply pw_below_drewN | apply below_drew1) | exact HB.out))) : w.heap.size ≤ gb33001)); clear HB; have HB := n0_; have BK33001 := n1_; have GW33001 := n2_; have GE33001 := n3_; clear n0_ n1_ n2_ n3_; clear hb hbox hg) | ((with_reducible refine gate_callee (f := 55) rfl ?_); refine goesL_ (some 5) rfl rfl Try.func55 (by kernel_rfl) rfl #[.slice A0 l0.length c0] rfl (by (try simp only [List.map_toArray, List.map_cons, List.map_nil]); first | done | rfl | (simp only [List.length_drop, List.length_take]; rfl)) ?_; (with_reducible refine (impl_isRegion.calls k _ _ l0 false _ ?side1 ?side2 A2.out).mono ?_); (case side1 => repeat (first | exact (Kd.C_below HR0.out HB.out) | (with_reducible refine Kd.C_alloc ?_ _) | (with_reducible refine Kd.C_drewN ?_ _) | (with_reducible refine Kd.C_drew ?_))); (case side2 => exact HC0.out); rintro e w14 ⟨rfl, hb⟩; refine ⟨_, rfl, ?_⟩; have n0_ := Aside0.mk (blk_below (g := gb33001) (o := .cells #[.int .i64 0, .int .i64 0, .int .i64 0, .int .i64 0] 36 (0, 0)) (by (with_reducible repeat (first | refine blk_drewN ?_ _ | refine blk_drew ?_ | refine blk_alloc ?_ _)); exact BK33001.out) hb); have n1_ := Aside0.mk (below_step (by repeat (first | (with_reducible first | exact HB.out | apply below_alloc | apply pw_below_drewN | apply below_drew1 | refine below_set ?_ GE33001.out) | exact HB.out)) hb); clear BK33001; clear HB; have BK33001 := n0_; have HB := n1_; clear n0_ n1_; (try clear hb); (try clear hb2); (try clear hk); (try clear hi); have hcz15_0 : w14.cell? ⟨gb33001, 0, none⟩ = some (.int .i64 0) := (blk_cell BK33001.out 0).trans rfl; have hcz15_1 : w14.cell? ⟨gb33001, 1, none⟩ = some (.int .i64 0) := (blk_cell BK33001.out 1).trans rfl; have hcz15_2 : w14.cell? ⟨gb33001, 2, none⟩ = some (.int .i64 0) := (blk_cell BK33001.out 2).trans rfl; have hcz15_3 : w14.cell? ⟨gb33001, 3, none⟩ = some (.int .i64 0) := (blk_cell BK33001.out 3).trans rfl; have hfz15_0 := blk_frozen BK33001.out 0; have hfz15_1 := blk_frozen BK33001.out 1; have hfz15_2 := blk_frozen BK33001.out 2; have hfz15_3 := blk_frozen BK33001.out 3))
    refine bodyPost_ret (results_ct rfl _ _ gb33001 36 #[.int .i64 0, .int .i64 0, .int .i64 0, .int .i64 0] (0, 0) _ rfl (by (with_reducible repeat (first | refine blk_drewN ?_ _ | refine blk_drew ?_ | refine blk_alloc ?_ _)); refine blk_put (cs := #[.int .i64 0, .int .i64 0, .int .i64 0, .int .i64 0]) ?_ 3 _ rfl; (with_reducible repeat (first | refine blk_drewN ?_ _ | refine blk_drew ?_ | refine blk_alloc ?_ _)); refine blk_put (cs := #[.int .i64 0, .int .i64 0, .int .i64 0, .int .i64 0]) ?_ 2 _ rfl; (with_reducible repeat (first | refine blk_drewN ?_ _ | refine blk_drew ?_ | refine blk_alloc ?_ _)); refine blk_put (cs := #[.int .i64 0, .int .i64 0, .int .i64 0, .int .i64 0]) ?_ 1 _ rfl; (with_reducible repeat (first | refine blk_drewN ?_ _ | refine blk_drew ?_ | refine blk_alloc ?_ _)); refine blk_put (cs := #[.int .i64 0, .int .i64 0, .int .i64 0, .int .i64 0]) ?_ 0 _ rfl; (with_reducible repeat (first | refine blk_drewN ?_ _ | refine blk_drew ?_ | refine blk_alloc ?_ _)); exact BK33001.out) Try.underlying36 rfl (by kernel_rfl)) rfl ?_
    exact ⟨by first | rfl | (simp [errW_none, errW_some] <;> rfl) | (simp [*, errW_none, errW_some] <;> rfl), by repeat (first | (with_reducible first | exact HB.out | apply below_alloc | apply pw_below_drewN | apply below_drew1 | refine below_set ?_ GE33001.out) | exact HB.out)⟩

end Go.Proofs.Ytfgeickfheogoaa.Q

namespace Go.Proofs.Ytfgeickfheogoaa.Q
open Go.RowKit Go.Proofs.YtfgeickfheogoaaW.PrintWords Go.Proofs.YtfgeickfheogoaaW.PrintLast Go.Proofs.YtfgeickfheogoaaW.PrintMore
attribute [local go_sem] max2_int min2_int max_two min_two max_three min_three max_four min_four
set_option linter.unusedVariables false
set_option linter.unusedSimpArgs false
/-! ### spec_boundsOf: function 66 -/
def spec_boundsOf.l0 : Nat → List (S57) → Int → Int → Int → Option (Int × Int × Int × Int)
  | 0, _, _, _, _ => none
  | k + 1, x0, x3, x4, x5 => if x5 < (x0.length : Int) then (if 0 ≤ x5 then (spec_boundsOf.l0 k x0 (mn x3 ((rd_T57 x0 x5).f1)) (mx x4 ((rd_T57 x0 x5).f2)) (wrap64 (x5 + 1))) else (none)) else (if 0 < (x0.length : Int) then (if 0 ≤ (wrap64 ((x0.length : Int) - 1)) then (if (wrap64 ((x0.length : Int) - 1)) < (x0.length : Int) then (some (x3, (rd_T57 x0 0).f0, wrap64 (x4 - x3), wrap64 ((wrap64 (((rd_T57 x0 (wrap64 ((x0.length : Int) - 1))).f0) - ((rd_T57 x0 0).f0))) + 1))) else (none)) else (none)) else (none))
def spec_boundsOf.f (k : Nat) (l0 : List (S57)) : Option (Int × Int × Int × Int) := if 0 < (l0.length : Int) then (spec_boundsOf.l0 k l0 ((rd_T57 l0 0).f1) ((rd_T57 l0 0).f2) 0) else (none)
theorem spec_boundsOf.mono_l : ∀ k, (∀ y0 y1 y2 y3, LeO (spec_boundsOf.l0 k y0 y1 y2 y3) (spec_boundsOf.l0 (k + 1) y0 y1 y2 y3))
  | 0 => fun _ _ _ _ r h => by simp [spec_boundsOf.l0] at h
  | k + 1 => by
    have ih0 := spec_boundsOf.mono_l k
    · intro y0 y1 y2 y3
      unfold spec_boundsOf.l0
      repeat' first
      | (with_reducible exact ih0 _ _ _ _)
      | (with_reducible exact LeO.refl _)
      | (with_reducible exact LeO.none _)
      | (with_reducible refine LeO.ite ?_ ?_)
      | (with_reducible refine LeO.bind ?_ (fun _ => ?_))
      | exact ih0 _ _ _ _
      | exact LeO.none _
      | refine LeO.ite ?_ ?_
      | refine LeO.bind ?_ (fun _ => ?_)
theorem spec_boundsOf.mono : ∀ a0 k, LeO (spec_boundsOf.f k a0) (spec_boundsOf.f (k + 1) a0) := by
  intro a0 k
  have ih0 := spec_boundsOf.mono_l k
  unfold spec_boundsOf.f
  repeat' first
      | (with_reducible exact ih0 _ _ _ _)
      | (with_reducible exact LeO.refl _)
      | (with_reducible exact LeO.none _)
      | (with_reducible refine LeO.ite ?_ ?_)
      | (with_reducible refine LeO.bind ?_ (fun _ => ?_))
      | exact ih0 _ _ _ _
      | exact LeO.none _
      | refine LeO.ite ?_ ?_
      | refine LeO.bind ?_ (fun _ => ?_)
def spec_boundsOf.T8 : Bool × List (List Nat × List Nat) := (true, [([], []), ([], []), ([1], [1]), ([2], [2]), ([3], [3]), ([], []), ([], []), ([5, 6], [5, 6]), ([], []), ([], []), ([9], [9]), ([10], [10]), ([8, 11], [8, 11]), ([12], [12]), ([13], [13]), ([], []), ([15], [15]), ([16], [16]), ([17], [17]), ([14, 18], [14, 18]), ([19], [19]), ([0, 4, 7, 20], [0, 4, 7, 20]), ([21, 0, 1, 2, 3, 4, 5, 6, 7, 8, 9, 10, 11, 12, 13, 14, 15, 16, 17, 18, 19, 20, 21], [21])])
def spec_boundsOf.B8 : List Nat := [0, 0, 2, 6, 14, 0, 0, 96, 0, 0, 512, 1536, 3840, 7936, 16128, 0, 32768, 98304, 229376, 524032, 1048320, 2097151, 4194303]
theorem spec_boundsOf.tab8 : rtab .any (opsOf Try.f66 8) = spec_boundsOf.T8 := by kernel_rfl
theorem spec_boundsOf.bits8 : waitsOk spec_boundsOf.T8.2 spec_boundsOf.B8 = true := by kernel_rfl
set_option maxHeartbeats 8000000 in
set_option maxRecDepth 100000 in
theorem spec_boundsOf.calls (k : Nat) (A0 : Option Addr) (c0 : Nat) (l0 : List (S57)) (r1 : Int) (r2 : Int) (r3 : Int) (r4 : Int) (w : World) (hr0 : Kd.C k57 w A0 l0.length l0) (hc0 : l0.length ≤ c0) (h : spec_boundsOf.f k l0 = some (r1, r2, r3, r4)) :
    Calls Try.prog 66 #[.slice A0 l0.length c0] w fun e w' => e = .returned (.agg #[.int .i64 r1, .int .i64 r2, .int .i64 r3, .int .i64 r4]) ∧ Below w.heap.size w w' := by
  have hu36 := Try.underlying36
  have HR0 := Aside0.mk hr0
  have HC0 := Aside0.mk hc0
  clear hr0 hc0
  have HB := Aside0.mk (Below.refl w.heap.size w)
  have H : (if 0 < (l0.length : Int) then (spec_boundsOf.l0 k l0 ((rd_T57 l0 0).f1) ((rd_T57 l0 0).f2) 0) else (none)) = some (r1, r2, r3, r4) := h
  clear h
  by_cases c2 : 0 < (l0.length : Int)
  · rw [if_pos c2] at H
    have c2b0 : decide (0 < (l0.length : Int)) = true := decide_eq_true c2
    have c2b1 : decide (0 < l0.length) = true := decide_eq_true (by omega)
    clear c2
    have H' := Aside0.mk H
    clear H
    go_enter Try.func66, Try.ntmps66
    go_wp2_with (first | ((with_reducible refine gate_dst (N := 2) rfl ?_); refine box_event ?hg (N := 2) ?hd (cs := #[.int .i64 0, .int .i64 0, .int .i64 0, .int .i64 0]) (t := 36) ?hr ?_; (case hd => rfl); (case hg => rfl); (case hr => first | (go_simp; done) | (go_simp; rfl)); intro gb67001 hg w3 hbox hb; have n0_ := Aside0.mk (below_step (by repeat (first | (with_reducible first | exact HB.out | apply below_alloc | apply pw_below_drewN | apply below_drew1) | exact HB.out)) hb); have n1_ := Aside0.mk (hbox); have n2_ := Aside0.mk ((by rw [hg]; exact (below_size (by repeat (first | (with_reducible first | exact HB.out | apply below_alloc | apply pw_below_drewN | apply below_drew1) | exact HB.out))) : w.heap.size ≤ gb67001)); have n3_ := Aside0.mk ((by rw [hg]; exact (below_size (by repeat (first | (with_reducible first | exact HB.out | apply below_alloc | apply pw_below_drewN | apply below_drew1) | exact HB.out))) : w.heap.size ≤ gb67001)); clear HB; have HB := n0_; have BK67001 := n1_; have GW67001 := n2_; have GE67001 := n3_; clear n0_ n1_ n2_ n3_; clear hb hbox hg; have p67002 : 0 ≤ (0 : Int) := (by omega); have q67002 : 0 < (l0.length : Int) := of_decide_eq_true (by first | (with_reducible assumption) | assumption); obtain ⟨ad67002, e67002, hx67002_0, hx67002_1, hx67002_2⟩ := at_T57 HR0.out 0 p67002 q67002; cases e67002; have qi67002 : (0 < l0.length) = True := eq_true (by omega); (try rw [show ((0 : Int)).toNat = 0 from rfl] at hx67002_0); (try rw [show 0 * 3 = 0 from rfl] at hx67002_0); (try rw [Addr.add_zero'] at hx67002_0); (try rw [show ((0 : Int)).toNat = 0 from rfl] at hx67002_1); (try rw [show 0 * 3 = 0 from rfl] at hx67002_1); (try rw [Addr.add_zero'] at hx67002_1); (try rw [show ((0 : Int)).toNat = 0 from rfl] at hx67002_2); (try rw [show 0 * 3 = 0 from rfl] at hx67002_2); (try rw [Addr.add_zero'] at hx67002_2); replace hx67002_0 := (HB.out.cell (World.block_lt_of_cell? w _ hx67002_0)).trans hx67002_0; replace hx67002_1 := (HB.out.cell (World.block_lt_of_cell? w _ hx67002_1)).trans hx67002_1; replace hx67002_2 := (HB.out.cell (World.block_lt_of_cell? w _ hx67002_2)).trans hx67002_2; replace p67002 := eq_true p67002; replace q67002 := eq_true q67002; have p67003 : 0 ≤ (0 : Int) := (by omega); have q67003 : 0 < (l0.length : Int) := of_decide_eq_true (by first | (with_reducible assumption) | assumption); obtain ⟨ad67003, e67003, hx67003_0, hx67003_1, hx67003_2⟩ := at_T57 HR0.out 0 p67003 q67003; obtain rfl : ad67002 = ad67003 := (by injection e67003); have qi67003 : (0 < l0.length) = True := eq_true (by omega); (try rw [show ((0 : Int)).toNat = 0 from rfl] at hx67003_0); (try rw [show 0 * 3 = 0 from rfl] at hx67003_0); (try rw [Addr.add_zero'] at hx67003_0); (try rw [show ((0 : Int)).toNat = 0 from rfl] at hx67003_1); (try rw [show 0 * 3 = 0 from rfl] at hx67003_1); (try rw [Addr.add_zero'] at hx67003_1); (try rw [show ((0 : Int)).toNat = 0 from rfl] at hx67003_2); (try rw [show 0 * 3 = 0 from rfl] at hx67003_2); (try rw [Addr.add_zero'] at hx67003_2); replace hx67003_0 := (HB.out.cell (World.block_lt_of_cell? w _ hx67003_0)).trans hx67003_0; replace hx67003_1 := (HB.out.cell (World.block_lt_of_cell? w _ hx67003_1)).trans hx67003_1; replace hx67003_2 := (HB.out.cell (World.block_lt_of_cell? w _ hx67003_2)).trans hx67003_2; replace p67003 := eq_true p67003; replace q67003 := eq_true q67003))
    go_loopg [3, 4, 5] k (fun kq v3 v4 v5 w' => ∃ (x3_1 : Int) (x4_1 : Int) (x5_1 : Int), v3 = .int .i64 x3_1 ∧ v4 = .int .i64 x4_1 ∧ v5 = .int .i64 x5_1 ∧ Aside0 (spec_boundsOf.l0 kq l0 x3_1 x4_1 x5_1 = some (r1, r2, r3, r4)) ∧ Aside0 (kq ≤ k) ∧ Aside0 (w'.heap[gb67001]? = some (.cells #[.int .i64 0, .int .i64 0, .int .i64 0, .int .i64 0] 36 (0, 0))) ∧ Aside0 (Below w.heap.size w w'))
    case atStart => exact ⟨((rd_T57 l0 0).f1), ((rd_T57 l0 0).f2), (0), (by first | rfl | (simp; done) | (simp [*]; done)), (by first | rfl | (simp; done) | (simp [*]; done)), (by first | rfl | (simp; done) | (simp [*]; done)), H', ⟨Nat.le_refl _⟩, ⟨by (with_reducible repeat (first | refine blk_drewN ?_ _ | refine blk_drew ?_ | refine blk_alloc ?_ _)); exact BK67001.out⟩, ⟨by repeat (first | (with_reducible first | exact HB.out | apply below_alloc | apply pw_below_drewN | apply below_drew1 | refine below_set ?_ GE67001.out) | exact HB.out)⟩⟩
    case round =>
      clear H'
      try clear c2
      try clear c2b0
      try clear c2b1
      try clear p2
      try clear hx67002_0
      try clear hx67002_1
      try clear hx67002_2
      try clear hx67003_0
      try clear hx67003_1
      try clear hx67003_2
      try clear p67002
      try clear p67003
      try clear q67002
      try clear q67003
      obtain ⟨x3_1, x4_1, x5_1, rfl, rfl, rfl, HA, HK1, BK67001, HB⟩ := hrel
      cases gk with
      | zero => exact absurd HA.out (by simp [spec_boundsOf.l0])
      | succ k1 =>
        have H := HA.out
        clear HA
        simp only [spec_boundsOf.l0] at H
        by_cases c4 : x5_1 < (l0.length : Int)
        · rw [if_pos c4] at H
          have c4b0 : decide (x5_1 < (l0.length : Int)) = true := decide_eq_true c4
          clear c4
          by_cases c5 : 0 ≤ x5_1
          · rw [if_pos c5] at H
            have c5b0 : decide (0 ≤ x5_1) = true := decide_eq_true c5
            clear c5
            obtain ⟨ji6, hji6⟩ : ∃ j_ : Int, (mn x3_1 ((rd_T57 l0 x5_1).f1)) = j_ := ⟨_, rfl⟩
            replace H : (spec_boundsOf.l0 k1 l0 ji6 (mx x4_1 ((rd_T57 l0 x5_1).f2)) (wrap64 (x5_1 + 1))) = some (r1, r2, r3, r4) := by first | (rw [hji6] at H; exact H) | (simp only [hji6] at H ⊢; exact H)
            have hji6_ : (if ((rd_T57 l0 x5_1).f1) < x3_1 then ((rd_T57 l0 x5_1).f1) else x3_1) = ji6 := hji6
            obtain ⟨ji7, hji7⟩ : ∃ j_ : Int, (mx x4_1 ((rd_T57 l0 x5_1).f2)) = j_ := ⟨_, rfl⟩
            replace H : (spec_boundsOf.l0 k1 l0 ji6 ji7 (wrap64 (x5_1 + 1))) = some (r1, r2, r3, r4) := by first | (rw [hji7] at H; exact H) | (simp only [hji7] at H ⊢; exact H)
            have hji7_ : (if x4_1 < ((rd_T57 l0 x5_1).f2) then ((rd_T57 l0 x5_1).f2) else x4_1) = ji7 := hji7
            have H' := Aside0.mk H
            clear H
            have p67004 : 0 ≤ (x5_1 : Int) := of_decide_eq_true (by first | (with_reducible assumption) | assumption)
            have q67004 : x5_1 < (l0.length : Int) := of_decide_eq_true (by first | (with_reducible assumption) | assumption)
            obtain ⟨ad67004, e67004, hx67004_0, hx67004_1, hx67004_2⟩ := at_T57 HR0.out x5_1 p67004 q67004
            obtain rfl : ad67002 = ad67004 := (by injection e67004)
            replace hx67004_0 := (HB.out.cell (World.block_lt_of_cell? w _ hx67004_0)).trans hx67004_0
            replace hx67004_1 := (HB.out.cell (World.block_lt_of_cell? w _ hx67004_1)).trans hx67004_1
            replace hx67004_2 := (HB.out.cell (World.block_lt_of_cell? w _ hx67004_2)).trans hx67004_2
            replace p67004 := eq_true p67004
            replace q67004 := eq_true q67004
            have p67005 : 0 ≤ (x5_1 : Int) := of_decide_eq_true (by first | (with_reducible assumption) | assumption)
            have q67005 : x5_1 < (l0.length : Int) := of_decide_eq_true (by first | (with_reducible assumption) | assumption)
            obtain ⟨ad67005, e67005, hx67005_0, hx67005_1, hx67005_2⟩ := at_T57 HR0.out x5_1 p67005 q67005
            obtain rfl : ad67002 = ad67005 := (by injection e67005)
            replace hx67005_0 := (HB.out.cell (World.block_lt_of_cell? w _ hx67005_0)).trans hx67005_0
            replace hx67005_1 := (HB.out.cell (World.block_lt_of_cell? w _ hx67005_1)).trans hx67005_1
            replace hx67005_2 := (HB.out.cell (World.block_lt_of_cell? w _ hx67005_2)).trans hx67005_2
            replace p67005 := eq_true p67005
            replace q67005 := eq_true q67005
            go_wp2
            go_roundg k1
            case measure => have := HK1.out; omega
            case rel => exact ⟨(ji6), (ji7), (wrap64 (x5_1 + 1)), (by first | rfl | (simp; done) | (simp only [← hji6] <;> (first | rfl | simp)) | (simp [*]; done)), (by first | rfl | (simp; done) | (simp only [← hji7] <;> (first | rfl | simp)) | (simp [*]; done)), (by first | rfl | (simp; done) | (simp [*]; done)), H', ⟨by have := HK1.out; omega⟩, ⟨by (with_reducible repeat (first | refine blk_drewN ?_ _ | refine blk_drew ?_ | refine blk_alloc ?_ _)); exact BK67001.out⟩, ⟨by repeat (first | (with_reducible first | exact HB.out | apply below_alloc | apply pw_below_drewN | apply below_drew1 | refine below_set ?_ GE67001.out) | exact HB.out)⟩⟩
          · rw [if_neg c5] at H
            exact absurd H (by simp)
        · rw [if_neg c4] at H
          have c4b0 : decide (x5_1 < (l0.length : Int)) = false := decide_eq_false c4
          clear c4
          by_cases c8 : 0 < (l0.length : Int)
          · rw [if_pos c8] at H
            have c8b0 : decide (0 < (l0.length : Int)) = true := decide_eq_true c8
            have c8b1 : decide (0 < l0.length) = true := decide_eq_true (by omega)
            clear c8
            obtain ⟨ji9, hji9⟩ : ∃ j_ : Int, (wrap64 ((l0.length : Int) - 1)) = j_ := ⟨_, rfl⟩
            replace H : (if 0 ≤ (ji9) then (if (ji9) < (l0.length : Int) then (some (x3_1, (rd_T57 l0 0).f0, wrap64 (x4_1 - x3_1), wrap64 ((wrap64 (((rd_T57 l0 (ji9)).f0) - ((rd_T57 l0 0).f0))) + 1))) else (none)) else (none)) = some (r1, r2, r3, r4) := by first | (rw [hji9] at H; exact H) | (simp only [hji9] at H ⊢; exact H)
            have hji9w : (IntKind.i64.wrap ((l0.length : Int) - 1)) = ji9 := (i64_w _).trans hji9
            by_cases c10 : 0 ≤ (ji9)
            · rw [if_pos c10] at H
              have c10b0 : decide (0 ≤ (ji9)) = true := decide_eq_true c10
              clear c10
              by_cases c11 : (ji9) < (l0.length : Int)
              · rw [if_pos c11] at H
                have c11b0 : decide ((ji9) < (l0.length : Int)) = true := decide_eq_true c11
                clear c11
                simp only [Option.some.injEq, Prod.mk.injEq] at H
                obtain ⟨rfl, rfl, rfl, rfl⟩ := H
                try go_wp2
                have n0_ := Aside0.mk (blk_drew BK67001.out)
                have n1_ := Aside0.mk (below_drew1 HB.out)
                clear BK67001
                clear HB
                have BK67001 := n0_
                have HB := n1_
                clear n0_ n1_
                have p67006 : 0 ≤ (0 : Int) := (by omega)
                have q67006 : 0 < (l0.length : Int) := of_decide_eq_true (by first | (with_reducible assumption) | assumption)
                obtain ⟨ad67006, e67006, hx67006_0, hx67006_1, hx67006_2⟩ := at_T57 HR0.out 0 p67006 q67006
                have hw67006_2 := hx67006_2
                (try rw [show ((0 : Int)).toNat = 0 from rfl] at hw67006_2)
                (try rw [show 0 * 3 = 0 from rfl] at hw67006_2)
                (try rw [Addr.add_zero'] at hw67006_2)
                have hw67006_1 := hx67006_1
                (try rw [show ((0 : Int)).toNat = 0 from rfl] at hw67006_1)
                (try rw [show 0 * 3 = 0 from rfl] at hw67006_1)
                (try rw [Addr.add_zero'] at hw67006_1)
                have hw67006_0 := hx67006_0
                (try rw [show ((0 : Int)).toNat = 0 from rfl] at hw67006_0)
                (try rw [show 0 * 3 = 0 from rfl] at hw67006_0)
                (try rw [Addr.add_zero'] at hw67006_0)
                obtain rfl : ad67002 = ad67006 := (by injection e67006)
                have qi67006 : (0 < l0.length) = True := eq_true (by omega)
                (try rw [show ((0 : Int)).toNat = 0 from rfl] at hx67006_0)
                (try rw [show 0 * 3 = 0 from rfl] at hx67006_0)
                (try rw [Addr.add_zero'] at hx67006_0)
                (try rw [show ((0 : Int)).toNat = 0 from rfl] at hx67006_1)
                (try rw [show 0 * 3 = 0 from rfl] at hx67006_1)
                (try rw [Addr.add_zero'] at hx67006_1)
                (try rw [show ((0 : Int)).toNat = 0 from rfl] at hx67006_2)
                (try rw [show 0 * 3 = 0 from rfl] at hx67006_2)
                (try rw [Addr.add_zero'] at hx67006_2)
                replace hx67006_0 := (HB.out.cell (World.block_lt_of_cell? w _ hx67006_0)).trans hx67006_0
                replace hx67006_1 := (HB.out.cell (World.block_lt_of_cell? w _ hx67006_1)).trans hx67006_1
                replace hx67006_2 := (HB.out.cell (World.block_lt_of_cell? w _ hx67006_2)).trans hx67006_2
                replace p67006 := eq_true p67006
                replace q67006 := eq_true q67006
                have p67007 : 0 ≤ ((ji9) : Int) := of_decide_eq_true (by first | (with_reducible assumption) | assumption)
                have q67007 : (ji9) < (l0.length : Int) := of_decide_eq_true (by first | (with_reducible assumption) | assumption)
                obtain ⟨ad67007, e67007, hx67007_0, hx67007_1, hx67007_2⟩ := at_T57 HR0.out (ji9) p67007 q67007
                have hw67007_2 := hx67007_2
                have hw67007_1 := hx67007_1
                have hw67007_0 := hx67007_0
                obtain rfl : ad67002 = ad67007 := (by injection e67007)
                replace hx67007_0 := (HB.out.cell (World.block_lt_of_cell? w _ hx67007_0)).trans hx67007_0
                replace hx67007_1 := (HB.out.cell (World.block_lt_of_cell? w _ hx67007_1)).trans hx67007_1
                replace hx67007_2 := (HB.out.cell (World.block_lt_of_cell? w _ hx67007_2)).trans hx67007_2
                replace p67007 := eq_true p67007
                replace q67007 := eq_true q67007
                have p67008 : 0 ≤ (0 : Int) := (by omega)
                have q67008 : 0 < (l0.length : Int) := of_decide_eq_true (by first | (with_reducible assumption) | assumption)
                obtain ⟨ad67008, e67008, hx67008_0, hx67008_1, hx67008_2⟩ := at_T57 HR0.out 0 p67008 q67008
                have hw67008_2 := hx67008_2
                (try rw [show ((0 : Int)).toNat = 0 from rfl] at hw67008_2)
                (try rw [show 0 * 3 = 0 from rfl] at hw67008_2)
                (try rw [Addr.add_zero'] at hw67008_2)
                have hw67008_1 := hx67008_1
                (try rw [show ((0 : Int)).toNat = 0 from rfl] at hw67008_1)
                (try rw [show 0 * 3 = 0 from rfl] at hw67008_1)
                (try rw [Addr.add_zero'] at hw67008_1)
                have hw67008_0 := hx67008_0
                (try rw [show ((0 : Int)).toNat = 0 from rfl] at hw67008_0)
                (try rw [show 0 * 3 = 0 from rfl] at hw67008_0)
                (try rw [Addr.add_zero'] at hw67008_0)
                obtain rfl : ad67002 = ad67008 := (by injection e67008)
                have qi67008 : (0 < l0.length) = True := eq_true (by omega)
                (try rw [show ((0 : Int)).toNat = 0 from rfl] at hx67008_0)
                (try rw [show 0 * 3 = 0 from rfl] at hx67008_0)
                (try rw [Addr.add_zero'] at hx67008_0)
                (try rw [show ((0 : Int)).toNat = 0 from rfl] at hx67008_1)
                (try rw [show 0 * 3 = 0 from rfl] at hx67008_1)
                (try rw [Addr.add_zero'] at hx67008_1)
                (try rw [show ((0 : Int)).toNat = 0 from rfl] at hx67008_2)
                (try rw [show 0 * 3 = 0 from rfl] at hx67008_2)
                (try rw [Addr.add_zero'] at hx67008_2)
                replace hx67008_0 := (HB.out.cell (World.block_lt_of_cell? w _ hx67008_0)).trans hx67008_0
                replace hx67008_1 := (HB.out.cell (World.block_lt_of_cell? w _ hx67008_1)).trans hx67008_1
                replace hx67008_2 := (HB.out.cell (World.block_lt_of_cell? w _ hx67008_2)).trans hx67008_2
                replace p67008 := eq_true p67008
                replace q67008 := eq_true q67008
                refine start_ (n := 23) (S := fun w' => w'.cell? ad67002 = some (.int .i64 ((rd_T57 l0 0).f0)) ∧ w'.cell? ⟨ad67002.block, ad67002.off + 1, none⟩ = some (.int .i64 ((rd_T57 l0 0).f1)) ∧ w'.cell? ⟨ad67002.block, ad67002.off + 2, none⟩ = some (.int .i64 ((rd_T57 l0 0).f2)) ∧ w'.cell? (ad67002.add (((ji9)).toNat * 3)) = some (.int .i64 ((rd_T57 l0 (ji9)).f0)) ∧ w'.cell? ⟨(ad67002.add (((ji9)).toNat * 3)).block, (ad67002.add (((ji9)).toNat * 3)).off + 1, none⟩ = some (.int .i64 ((rd_T57 l0 (ji9)).f1)) ∧ w'.cell? ⟨(ad67002.add (((ji9)).toNat * 3)).block, (ad67002.add (((ji9)).toNat * 3)).off + 2, none⟩ = some (.int .i64 ((rd_T57 l0 (ji9)).f2)) ∧ w'.cell? ad67002 = some (.int .i64 ((rd_T57 l0 0).f0)) ∧ w'.cell? ⟨ad67002.block, ad67002.off + 1, none⟩ = some (.int .i64 ((rd_T57 l0 0).f1)) ∧ w'.cell? ⟨ad67002.block, ad67002.off + 2, none⟩ = some (.int .i64 ((rd_T57 l0 0).f2))) (ds := []) #[false, false, false, false, false, false, false, false, false, false, false, false, false, false, false, false, false, false, false, false, false, false, false] (by kernel_rfl) rfl rfl ⟨((HB.out.cell (World.block_lt_of_cell? w _ hw67006_0)).trans hw67006_0), ((HB.out.cell (World.block_lt_of_cell? w _ hw67006_1)).trans hw67006_1), ((HB.out.cell (World.block_lt_of_cell? w _ hw67006_2)).trans hw67006_2), ((HB.out.cell (World.block_lt_of_cell? w _ hw67007_0)).trans hw67007_0), ((HB.out.cell (World.block_lt_of_cell? w _ hw67007_1)).trans hw67007_1), ((HB.out.cell (World.block_lt_of_cell? w _ hw67007_2)).trans hw67007_2), ((HB.out.cell (World.block_lt_of_cell? w _ hw67008_0)).trans hw67008_0), ((HB.out.cell (World.block_lt_of_cell? w _ hw67008_1)).trans hw67008_1), ((HB.out.cell (World.block_lt_of_cell? w _ hw67008_2)).trans hw67008_2)⟩ (fun hHeld => ?_); refine with_tabW spec_boundsOf.tab8 spec_boundsOf.bits8 (fun HT_ HW_ => ?_)
                generalize wr.drew = w12 at BK67001 HB hx67006_0 hx67006_1 hx67006_2 hx67007_0 hx67007_1 hx67007_2 hx67008_0 hx67008_1 hx67008_2 hHeld ⊢
                refine pure_ (i := 0) (N := some 34) (v := ?_) (a' := ?_) #[true, false, false, false, false, false, false, false, false, false, false, false, false, false, false, false, false, false, false, false, false, false, false] rfl rfl (any_of HT_.out (by kernel_rfl)) (fun _ _ _ h => h) (Or.inl ⟨by rfl, ?_⟩) ?_ ?_
                rotate_left
                · intro w'
                  go_simp
                  with_reducible rfl
                rotate_left
                · simp only [Act.put, List.setIfInBounds_toArray, List.set_cons_zero, List.set_cons_succ, i64_w, i32_w]
                  rfl
                refine pure_ (i := 1) (N := some 35) (v := ?_) (a' := ?_) #[true, true, false, false, false, false, false, false, false, false, false, false, false, false, false, false, false, false, false, false, false, false, false] rfl rfl (any_of HT_.out (by kernel_rfl)) (fun _ _ _ h => h) (Or.inl ⟨by rfl, ?_⟩) ?_ ?_
                rotate_left
                · intro w'
                  go_simp
                  with_reducible rfl
                rotate_left
                · simp only [Act.put, List.setIfInBounds_toArray, List.set_cons_zero, List.set_cons_succ, i64_w, i32_w]
                  rfl
                refine pure_ (i := 2) (N := some 36) (v := ?_) (a' := ?_) #[true, true, true, false, false, false, false, false, false, false, false, false, false, false, false, false, false, false, false, false, false, false, false] rfl rfl (any_of HT_.out (by kernel_rfl)) (fun _ _ _ h => h) (Or.inl ⟨by rfl, ?_⟩) ?_ ?_
                rotate_left
                · intro w'
                  go_simp
                  with_reducible rfl
                rotate_left
                · simp only [Act.put, List.setIfInBounds_toArray, List.set_cons_zero, List.set_cons_succ, i64_w, i32_w]
                  rfl
                refine pure_ (i := 3) (N := some 37) (v := ?_) (a' := ?_) #[true, true, true, true, false, false, false, false, false, false, false, false, false, false, false, false, false, false, false, false, false, false, false] rfl rfl (any_of HT_.out (by kernel_rfl)) (fun _ _ _ h => h) (Or.inl ⟨by rfl, ?_⟩) ?_ ?_
                rotate_left
                · intro w'
                  go_simp
                  with_reducible rfl
                rotate_left
                · simp only [Act.put, List.setIfInBounds_toArray, List.set_cons_zero, List.set_cons_succ, i64_w, i32_w]
                  rfl
                refine pure_ (i := 5) (N := some 39) (v := ?_) (a' := ?_) #[true, true, true, true, false, true, false, false, false, false, false, false, false, false, false, false, false, false, false, false, false, false, false] rfl rfl (any_of HT_.out (by kernel_rfl)) (fun _ _ _ h => h) (Or.inl ⟨by rfl, ?_⟩) ?_ ?_
                rotate_left
                · intro w'
                  go_simp
                  with_reducible rfl
                rotate_left
                · simp only [Act.put, List.setIfInBounds_toArray, List.set_cons_zero, List.set_cons_succ, i64_w, i32_w]
                  rfl
                refine pure_ (i := 6) (N := some 40) (v := ?_) (a' := ?_) #[true, true, true, true, false, true, true, false, false, false, false, false, false, false, false, false, false, false, false, false, false, false, false] rfl rfl (any_of HT_.out (by kernel_rfl)) (fun _ _ _ h => h) (Or.inl ⟨by rfl, ?_⟩) ?_ ?_
                rotate_left
                · intro w'
                  go_simp
                  with_reducible rfl
                rotate_left
                · simp only [Act.put, List.setIfInBounds_toArray, List.set_cons_zero, List.set_cons_succ, i64_w, i32_w]
                  rfl
                refine pure_ (i := 7) (N := some 41) (v := ?_) (a' := ?_) #[true, true, true, true, false, true, true, true, false, false, false, false, false, false, false, false, false, false, false, false, false, false, false] rfl rfl (any_of HT_.out (by kernel_rfl)) (fun _ _ _ h => h) (Or.inl ⟨by rfl, ?_⟩) ?_ ?_
                rotate_left
                · intro w'
                  go_simp
                  with_reducible rfl
                rotate_left
                · simp only [Act.put, List.setIfInBounds_toArray, List.set_cons_zero, List.set_cons_succ, i64_w, i32_w]
                  rfl
                refine pure_ (i := 8) (N := some 42) (v := ?_) (a' := ?_) #[true, true, true, true, false, true, true, true, true, false, false, false, false, false, false, false, false, false, false, false, false, false, false] rfl rfl (any_of HT_.out (by kernel_rfl)) (fun _ _ _ h => h) (Or.inl ⟨by rfl, ?_⟩) ?_ ?_
                rotate_left
                · intro w'
                  go_simp
                  with_reducible rfl
                rotate_left
                · simp only [Act.put, List.setIfInBounds_toArray, List.set_cons_zero, List.set_cons_succ, i64_w, i32_w]
                  rfl
                refine pure_ (i := 9) (N := some 43) (v := ?_) (a' := ?_) #[true, true, true, true, false, true, true, true, true, true, false, false, false, false, false, false, false, false, false, false, false, false, false] rfl rfl (any_of HT_.out (by kernel_rfl)) (fun _ _ _ h => h) (Or.inl ⟨by rfl, ?_⟩) ?_ ?_
                rotate_left
                · intro w'
                  go_simp
                  with_reducible rfl
                rotate_left
                · simp only [Act.put, List.setIfInBounds_toArray, List.set_cons_zero, List.set_cons_succ, i64_w, i32_w]
                  rfl
                refine pure_ (i := 10) (N := some 44) (v := ?_) (a' := ?_) #[true, true, true, true, false, true, true, true, true, true, true, false, false, false, false, false, false, false, false, false, false, false, false] rfl rfl (any_of HT_.out (by kernel_rfl)) (fun _ _ _ h => h) (Or.inl ⟨by rfl, ?_⟩) ?_ ?_
                rotate_left
                · intro w'
                  go_simp
                  with_reducible rfl
                rotate_left
                · simp only [Act.put, List.setIfInBounds_toArray, List.set_cons_zero, List.set_cons_succ, i64_w, i32_w]
                  rfl
                refine pure_ (i := 11) (N := some 45) (v := ?_) (a' := ?_) #[true, true, true, true, false, true, true, true, true, true, true, true, false, false, false, false, false, false, false, false, false, false, false] rfl rfl (any_of HT_.out (by kernel_rfl)) (fun _ _ _ h => h) (Or.inl ⟨by rfl, ?_⟩) ?_ ?_
                rotate_left
                · intro w'
                  go_simp
                  with_reducible rfl
                rotate_left
                · simp only [Act.put, List.setIfInBounds_toArray, List.set_cons_zero, List.set_cons_succ, i64_w, i32_w]
                  rfl
                refine pure_ (i := 12) (N := some 46) (v := ?_) (a' := ?_) #[true, true, true, true, false, true, true, true, true, true, true, true, true, false, false, false, false, false, false, false, false, false, false] rfl rfl (any_of HT_.out (by kernel_rfl)) (fun _ _ _ h => h) (Or.inl ⟨by rfl, ?_⟩) ?_ ?_
                rotate_left
                · intro w'
                  go_simp
                  with_reducible rfl
                rotate_left
                · simp only [Act.put, List.setIfInBounds_toArray, List.set_cons_zero, List.set_cons_succ, i64_w, i32_w]
                  rfl
                refine pure_ (i := 13) (N := some 47) (v := ?_) (a' := ?_) #[true, true, true, true, false, true, true, true, true, true, true, true, true, true, false, false, false, false, false, false, false, false, false] rfl rfl (any_of HT_.out (by kernel_rfl)) (fun _ _ _ h => h) (Or.inl ⟨by rfl, ?_⟩) ?_ ?_
                rotate_left
                · intro w'
                  go_simp
                  with_reducible rfl
                rotate_left
                · simp only [Act.put, List.setIfInBounds_toArray, List.set_cons_zero, List.set_cons_succ, i64_w, i32_w]
                  rfl
                refine pure_ (i := 15) (N := some 49) (v := ?_) (a' := ?_) #[true, true, true, true, false, true, true, true, true, true, true, true, true, true, false, true, false, false, false, false, false, false, false] rfl rfl (any_of HT_.out (by kernel_rfl)) (fun _ _ _ h => h) (Or.inl ⟨by rfl, ?_⟩) ?_ ?_
                rotate_left
                · intro w'
                  go_simp
                  with_reducible rfl
                rotate_left
                · simp only [Act.put, List.setIfInBounds_toArray, List.set_cons_zero, List.set_cons_succ, i64_w, i32_w]
                  rfl
                refine pure_ (i := 16) (N := some 50) (v := ?_) (a' := ?_) #[true, true, true, true, false, true, true, true, true, true, true, true, true, true, false, true, true, false, false, false, false, false, false] rfl rfl (any_of HT_.out (by kernel_rfl)) (fun _ _ _ h => h) (Or.inl ⟨by rfl, ?_⟩) ?_ ?_
                rotate_left
                · intro w'
                  go_simp
                  with_reducible rfl
                rotate_left
                · simp only [Act.put, List.setIfInBounds_toArray, List.set_cons_zero, List.set_cons_succ, i64_w, i32_w]
                  rfl
                refine pure_ (i := 17) (N := some 51) (v := ?_) (a' := ?_) #[true, true, true, true, false, true, true, true, true, true, true, true, true, true, false, true, true, true, false, false, false, false, false] rfl rfl (any_of HT_.out (by kernel_rfl)) (fun _ _ _ h => h) (Or.inl ⟨by rfl, ?_⟩) ?_ ?_
                rotate_left
                · intro w'
                  go_simp
                  with_reducible rfl
                rotate_left
                · simp only [Act.put, List.setIfInBounds_toArray, List.set_cons_zero, List.set_cons_succ, i64_w, i32_w]
                  rfl
                refine take_ (i := 4) (N := some 38) (v := ?_) (a' := ?_) #[true, true, true, true, true, true, true, true, true, true, true, true, true, true, false, true, true, true, false, false, false, false, false] rfl rfl (take_ofW HT_.out HW_.out (by kernel_rfl)) (fun _ _ _ h => h) (Or.inl ⟨by rfl, ?_⟩) hHeld ?_ ?_
                rotate_left
                · rintro w' ⟨s0, s1, s2, s3, s4, s5, s6, s7, s8⟩
                  go_simp
                  with_reducible rfl
                rotate_left
                · simp only [Act.put, List.setIfInBounds_toArray, List.set_cons_zero, List.set_cons_succ, i64_w, i32_w]
                  rfl
                refine take_ (i := 14) (N := some 48) (v := ?_) (a' := ?_) #[true, true, true, true, true, true, true, true, true, true, true, true, true, true, true, true, true, true, false, false, false, false, false] rfl rfl (take_ofW HT_.out HW_.out (by kernel_rfl)) (fun _ _ _ h => h) (Or.inl ⟨by rfl, ?_⟩) hHeld ?_ ?_
                rotate_left
                · rintro w' ⟨s0, s1, s2, s3, s4, s5, s6, s7, s8⟩
                  go_simp
                  with_reducible rfl
                rotate_left
                · simp only [Act.put, List.setIfInBounds_toArray, List.set_cons_zero, List.set_cons_succ, i64_w, i32_w]
                  rfl
                refine take_ (i := 18) (N := some 52) (v := ?_) (a' := ?_) #[true, true, true, true, true, true, true, true, true, true, true, true, true, true, true, true, true, true, true, false, false, false, false] rfl rfl (take_ofW HT_.out HW_.out (by kernel_rfl)) (fun _ _ _ h => h) (Or.inl ⟨by rfl, ?_⟩) hHeld ?_ ?_
                rotate_left
                · rintro w' ⟨s0, s1, s2, s3, s4, s5, s6, s7, s8⟩
                  go_simp
                  with_reducible rfl
                rotate_left
                · simp only [Act.put, List.setIfInBounds_toArray, List.set_cons_zero, List.set_cons_succ, i64_w, i32_w]
                  rfl
                refine pure_ (i := 19) (N := some 53) (v := ?_) (a' := ?_) #[true, true, true, true, true, true, true, true, true, true, true, true, true, true, true, true, true, true, true, true, false, false, false] rfl rfl (any_of HT_.out (by kernel_rfl)) (fun _ _ _ h => h) (Or.inl ⟨by rfl, ?_⟩) ?_ ?_
                rotate_left
                · intro w'
                  go_simp
                  with_reducible rfl
                rotate_left
                · simp only [Act.put, List.setIfInBounds_toArray, List.set_cons_zero, List.set_cons_succ, i64_w, i32_w]
                  rfl
                refine pure_ (i := 20) (N := some 54) (v := ?_) (a' := ?_) #[true, true, true, true, true, true, true, true, true, true, true, true, true, true, true, true, true, true, true, true, true, false, false] rfl rfl (any_of HT_.out (by kernel_rfl)) (fun _ _ _ h => h) (Or.inl ⟨by rfl, ?_⟩) ?_ ?_
                rotate_left
                · intro w'
                  go_simp
                  with_reducible rfl
                rotate_left
                · simp only [Act.put, List.setIfInBounds_toArray, List.set_cons_zero, List.set_cons_succ, i64_w, i32_w]
                  rfl
                refine pure_ (i := 21) (N := some 55) (v := ?_) (a' := ?_) #[true, true, true, true, true, true, true, true, true, true, true, true, true, true, true, true, true, true, true, true, true, true, false] rfl rfl (any_of HT_.out (by kernel_rfl)) (fun _ _ _ h => h) (Or.inl ⟨by rfl, ?_⟩) ?_ ?_
                rotate_left
                · intro w'
                  go_simp
                  with_reducible rfl
                rotate_left
                · simp only [Act.put, List.setIfInBounds_toArray, List.set_cons_zero, List.set_cons_succ, i64_w, i32_w]
                  rfl
                refine one_ (i := 22) (N := none) #[true, true, true, true, true, true, true, true, true, true, true, true, true, true, true, true, true, true, true, true, true, true, true] rfl rfl (one_of HT_.out (by kernel_rfl)) (by decide) (fun K hK => ?_)
                have hs13 : w12.cell? ⟨gb67001, 0, none⟩ = some (.int .i64 0) := (blk_cell BK67001.out 0).trans rfl
                have hfs13 := blk_frozen BK67001.out 0
                have hs14 : w12.cell? ⟨gb67001, 1, none⟩ = some (.int .i64 0) := (blk_cell BK67001.out 1).trans rfl
                have hfs14 := blk_frozen BK67001.out 1
                have hs15 : w12.cell? ⟨gb67001, 2, none⟩ = some (.int .i64 0) := (blk_cell BK67001.out 2).trans rfl
                have hfs15 := blk_frozen BK67001.out 2
                have hs16 : w12.cell? ⟨gb67001, 3, none⟩ = some (.int .i64 0) := (blk_cell BK67001.out 3).trans rfl
                have hfs16 := blk_frozen BK67001.out 3
                refine skip_ (w1 := ?_) (by rfl) rfl ?_ ?_
                rotate_left
                · go_simp
                  rfl
                refine hK.out _ _ ⟨((cell_far (p := ⟨gb67001, _, none⟩) (by first | exact Nat.ne_of_lt (Nat.lt_of_lt_of_le (by have := World.block_lt_of_cell? _ _ hw67006_0; first | rwa [add_block] at this | exact this) GW67001.out) | (rw [add_block]; exact Nat.ne_of_lt (Nat.lt_of_lt_of_le (by have := World.block_lt_of_cell? _ _ hw67006_0; first | rwa [add_block] at this | exact this) GW67001.out)) | (show (Addr.add _ _).block ≠ _; rw [add_block]; exact Nat.ne_of_lt (Nat.lt_of_lt_of_le (by have := World.block_lt_of_cell? _ _ hw67006_0; first | rwa [add_block] at this | exact this) GW67001.out)) | (dsimp only; exact Nat.ne_of_lt (Nat.lt_of_lt_of_le (by have := World.block_lt_of_cell? _ _ hw67006_0; first | rwa [add_block] at this | exact this) GW67001.out))) _).trans (((cell_far (p := ⟨gb67001, _, none⟩) (by first | exact Nat.ne_of_lt (Nat.lt_of_lt_of_le (by have := World.block_lt_of_cell? _ _ hw67006_0; first | rwa [add_block] at this | exact this) GW67001.out) | (rw [add_block]; exact Nat.ne_of_lt (Nat.lt_of_lt_of_le (by have := World.block_lt_of_cell? _ _ hw67006_0; first | rwa [add_block] at this | exact this) GW67001.out)) | (show (Addr.add _ _).block ≠ _; rw [add_block]; exact Nat.ne_of_lt (Nat.lt_of_lt_of_le (by have := World.block_lt_of_cell? _ _ hw67006_0; first | rwa [add_block] at this | exact this) GW67001.out)) | (dsimp only; exact Nat.ne_of_lt (Nat.lt_of_lt_of_le (by have := World.block_lt_of_cell? _ _ hw67006_0; first | rwa [add_block] at this | exact this) GW67001.out))) _).trans (((cell_far (p := ⟨gb67001, _, none⟩) (by first | exact Nat.ne_of_lt (Nat.lt_of_lt_of_le (by have := World.block_lt_of_cell? _ _ hw67006_0; first | rwa [add_block] at this | exact this) GW67001.out) | (rw [add_block]; exact Nat.ne_of_lt (Nat.lt_of_lt_of_le (by have := World.block_lt_of_cell? _ _ hw67006_0; first | rwa [add_block] at this | exact this) GW67001.out)) | (show (Addr.add _ _).block ≠ _; rw [add_block]; exact Nat.ne_of_lt (Nat.lt_of_lt_of_le (by have := World.block_lt_of_cell? _ _ hw67006_0; first | rwa [add_block] at this | exact this) GW67001.out)) | (dsimp only; exact Nat.ne_of_lt (Nat.lt_of_lt_of_le (by have := World.block_lt_of_cell? _ _ hw67006_0; first | rwa [add_block] at this | exact this) GW67001.out))) _).trans (((cell_far (p := ⟨gb67001, _, none⟩) (by first | exact Nat.ne_of_lt (Nat.lt_of_lt_of_le (by have := World.block_lt_of_cell? _ _ hw67006_0; first | rwa [add_block] at this | exact this) GW67001.out) | (rw [add_block]; exact Nat.ne_of_lt (Nat.lt_of_lt_of_le (by have := World.block_lt_of_cell? _ _ hw67006_0; first | rwa [add_block] at this | exact this) GW67001.out)) | (show (Addr.add _ _).block ≠ _; rw [add_block]; exact Nat.ne_of_lt (Nat.lt_of_lt_of_le (by have := World.block_lt_of_cell? _ _ hw67006_0; first | rwa [add_block] at this | exact this) GW67001.out)) | (dsimp only; exact Nat.ne_of_lt (Nat.lt_of_lt_of_le (by have := World.block_lt_of_cell? _ _ hw67006_0; first | rwa [add_block] at this | exact this) GW67001.out))) _).trans (hHeld.1)))))))), ((cell_far (p := ⟨gb67001, _, none⟩) (by first | exact Nat.ne_of_lt (Nat.lt_of_lt_of_le (by have := World.block_lt_of_cell? _ _ hw67006_1; first | rwa [add_block] at this | exact this) GW67001.out) | (rw [add_block]; exact Nat.ne_of_lt (Nat.lt_of_lt_of_le (by have := World.block_lt_of_cell? _ _ hw67006_1; first | rwa [add_block] at this | exact this) GW67001.out)) | (show (Addr.add _ _).block ≠ _; rw [add_block]; exact Nat.ne_of_lt (Nat.lt_of_lt_of_le (by have := World.block_lt_of_cell? _ _ hw67006_1; first | rwa [add_block] at this | exact this) GW67001.out)) | (dsimp only; exact Nat.ne_of_lt (Nat.lt_of_lt_of_le (by have := World.block_lt_of_cell? _ _ hw67006_1; first | rwa [add_block] at this | exact this) GW67001.out))) _).trans (((cell_far (p := ⟨gb67001, _, none⟩) (by first | exact Nat.ne_of_lt (Nat.lt_of_lt_of_le (by have := World.block_lt_of_cell? _ _ hw67006_1; first | rwa [add_block] at this | exact this) GW67001.out) | (rw [add_block]; exact Nat.ne_of_lt (Nat.lt_of_lt_of_le (by have := World.block_lt_of_cell? _ _ hw67006_1; first | rwa [add_block] at this | exact this) GW67001.out)) | (show (Addr.add _ _).block ≠ _; rw [add_block]; exact Nat.ne_of_lt (Nat.lt_of_lt_of_le (by have := World.block_lt_of_cell? _ _ hw67006_1; first | rwa [add_block] at this | exact this) GW67001.out)) | (dsimp only; exact Nat.ne_of_lt (Nat.lt_of_lt_of_le (by have := World.block_lt_of_cell? _ _ hw67006_1; first | rwa [add_block] at this | exact this) GW67001.out))) _).trans (((cell_far (p := ⟨gb67001, _, none⟩) (by first | exact Nat.ne_of_lt (Nat.lt_of_lt_of_le (by have := World.block_lt_of_cell? _ _ hw67006_1; first | rwa [add_block] at this | exact this) GW67001.out) | (rw [add_block]; exact Nat.ne_of_lt (Nat.lt_of_lt_of_le (by have := World.block_lt_of_cell? _ _ hw67006_1; first | rwa [add_block] at this | exact this) GW67001.out)) | (show (Addr.add _ _).block ≠ _; rw [add_block]; exact Nat.ne_of_lt (Nat.lt_of_lt_of_le (by have := World.block_lt_of_cell? _ _ hw67006_1; first | rwa [add_block] at this | exact this) GW67001.out)) | (dsimp only; exact Nat.ne_of_lt (Nat.lt_of_lt_of_le (by have := World.block_lt_of_cell? _ _ hw67006_1; first | rwa [add_block] at this | exact this) GW67001.out))) _).trans (((cell_far (p := ⟨gb67001, _, none⟩) (by first | exact Nat.ne_of_lt (Nat.lt_of_lt_of_le (by have := World.block_lt_of_cell? _ _ hw67006_1; first | rwa [add_block] at this | exact this) GW67001.out) | (rw [add_block]; exact Nat.ne_of_lt (Nat.lt_of_lt_of_le (by have := World.block_lt_of_cell? _ _ hw67006_1; first | rwa [add_block] at this | exact this) GW67001.out)) | (show (Addr.add _ _).block ≠ _; rw [add_block]; exact Nat.ne_of_lt (Nat.lt_of_lt_of_le (by have := World.block_lt_of_cell? _ _ hw67006_1; first | rwa [add_block] at this | exact this) GW67001.out)) | (dsimp only; exact Nat.ne_of_lt (Nat.lt_of_lt_of_le (by have := World.block_lt_of_cell? _ _ hw67006_1; first | rwa [add_block] at this | exact this) GW67001.out))) _).trans (hHeld.2.1)))))))), ((cell_far (p := ⟨gb67001, _, none⟩) (by first | exact Nat.ne_of_lt (Nat.lt_of_lt_of_le (by have := World.block_lt_of_cell? _ _ hw67006_2; first | rwa [add_block] at this | exact this) GW67001.out) | (rw [add_block]; exact Nat.ne_of_lt (Nat.lt_of_lt_of_le (by have := World.block_lt_of_cell? _ _ hw67006_2; first | rwa [add_block] at this | exact this) GW67001.out)) | (show (Addr.add _ _).block ≠ _; rw [add_block]; exact Nat.ne_of_lt (Nat.lt_of_lt_of_le (by have := World.block_lt_of_cell? _ _ hw67006_2; first | rwa [add_block] at this | exact this) GW67001.out)) | (dsimp only; exact Nat.ne_of_lt (Nat.lt_of_lt_of_le (by have := World.block_lt_of_cell? _ _ hw67006_2; first | rwa [add_block] at this | exact this) GW67001.out))) _).trans (((cell_far (p := ⟨gb67001, _, none⟩) (by first | exact Nat.ne_of_lt (Nat.lt_of_lt_of_le (by have := World.block_lt_of_cell? _ _ hw67006_2; first | rwa [add_block] at this | exact this) GW67001.out) | (rw [add_block]; exact Nat.ne_of_lt (Nat.lt_of_lt_of_le (by have := World.block_lt_of_cell? _ _ hw67006_2; first | rwa [add_block] at this | exact this) GW67001.out)) | (show (Addr.add _ _).block ≠ _; rw [add_block]; exact Nat.ne_of_lt (Nat.lt_of_lt_of_le (by have := World.block_lt_of_cell? _ _ hw67006_2; first | rwa [add_block] at this | exact this) GW67001.out)) | (dsimp only; exact Nat.ne_of_lt (Nat.lt_of_lt_of_le (by have := World.block_lt_of_cell? _ _ hw67006_2; first | rwa [add_block] at this | exact this) GW67001.out))) _).trans (((cell_far (p := ⟨gb67001, _, none⟩) (by first | exact Nat.ne_of_lt (Nat.lt_of_lt_of_le (by have := World.block_lt_of_cell? _ _ hw67006_2; first | rwa [add_block] at this | exact this) GW67001.out) | (rw [add_block]; exact Nat.ne_of_lt (Nat.lt_of_lt_of_le (by have := World.block_lt_of_cell? _ _ hw67006_2; first | rwa [add_block] at this | exact this) GW67001.out)) | (show (Addr.add _ _).block ≠ _; rw [add_block]; exact Nat.ne_of_lt (Nat.lt_of_lt_of_le (by have := World.block_lt_of_cell? _ _ hw67006_2; first | rwa [add_block] at this | exact this) GW67001.out)) | (dsimp only; exact Nat.ne_of_lt (Nat.lt_of_lt_of_le (by have := World.block_lt_of_cell? _ _ hw67006_2; first | rwa [add_block] at this | exact this) GW67001.out))) _).trans (((cell_far (p := ⟨gb67001, _, none⟩) (by first | exact Nat.ne_of_lt (Nat.lt_of_lt_of_le (by have := World.block_lt_of_cell? _ _ hw67006_2; first | rwa [add_block] at this | exact this) GW67001.out) | (rw [add_block]; exact Nat.ne_of_lt (Nat.lt_of_lt_of_le (by have := World.block_lt_of_cell? _ _ hw67006_2; first | rwa [add_block] at this | exact this) GW67001.out)) | (show (Addr.add _ _).block ≠ _; rw [add_block]; exact Nat.ne_of_lt (Nat.lt_of_lt_of_le (by have := World.block_lt_of_cell? _ _ hw67006_2; first | rwa [add_block] at this | exact this) GW67001.out)) | (dsimp only; exact Nat.ne_of_lt (Nat.lt_of_lt_of_le (by have := World.block_lt_of_cell? _ _ hw67006_2; first | rwa [add_block] at this | exact this) GW67001.out))) _).trans (hHeld.2.2.1)))))))), ((cell_far (p := ⟨gb67001, _, none⟩) (by first | exact Nat.ne_of_lt (Nat.lt_of_lt_of_le (by have := World.block_lt_of_cell? _ _ hw67007_0; first | rwa [add_block] at this | exact this) GW67001.out) | (rw [add_block]; exact Nat.ne_of_lt (Nat.lt_of_lt_of_le (by have := World.block_lt_of_cell? _ _ hw67007_0; first | rwa [add_block] at this | exact this) GW67001.out)) | (show (Addr.add _ _).block ≠ _; rw [add_block]; exact Nat.ne_of_lt (Nat.lt_of_lt_of_le (by have := World.block_lt_of_cell? _ _ hw67007_0; first | rwa [add_block] at this | exact this) GW67001.out)) | (dsimp only; exact Nat.ne_of_lt (Nat.lt_of_lt_of_le (by have := World.block_lt_of_cell? _ _ hw67007_0; first | rwa [add_block] at this | exact this) GW67001.out))) _).trans (((cell_far (p := ⟨gb67001, _, none⟩) (by first | exact Nat.ne_of_lt (Nat.lt_of_lt_of_le (by have := World.block_lt_of_cell? _ _ hw67007_0; first | rwa [add_block] at this | exact this) GW67001.out) | (rw [add_block]; exact Nat.ne_of_lt (Nat.lt_of_lt_of_le (by have := World.block_lt_of_cell? _ _ hw67007_0; first | rwa [add_block] at this | exact this) GW67001.out)) | (show (Addr.add _ _).block ≠ _; rw [add_block]; exact Nat.ne_of_lt (Nat.lt_of_lt_of_le (by have := World.block_lt_of_cell? _ _ hw67007_0; first | rwa [add_block] at this | exact this) GW67001.out)) | (dsimp only; exact Nat.ne_of_lt (Nat.lt_of_lt_of_le (by have := World.block_lt_of_cell? _ _ hw67007_0; first | rwa [add_block] at this | exact this) GW67001.out))) _).trans (((cell_far (p := ⟨gb67001, _, none⟩) (by first | exact Nat.ne_of_lt (Nat.lt_of_lt_of_le (by have := World.block_lt_of_cell? _ _ hw67007_0; first | rwa [add_block] at this | exact this) GW67001.out) | (rw [add_block]; exact Nat.ne_of_lt (Nat.lt_of_lt_of_le (by have := World.block_lt_of_cell? _ _ hw67007_0; first | rwa [add_block] at this | exact this) GW67001.out)) | (show (Addr.add _ _).block ≠ _; rw [add_block]; exact Nat.ne_of_lt (Nat.lt_of_lt_of_le (by have := World.block_lt_of_cell? _ _ hw67007_0; first | rwa [add_block] at this | exact this) GW67001.out)) | (dsimp only; exact Nat.ne_of_lt (Nat.lt_of_lt_of_le (by have := World.block_lt_of_cell? _ _ hw67007_0; first | rwa [add_block] at this | exact this) GW67001.out))) _).trans (((cell_far (p := ⟨gb67001, _, none⟩) (by first | exact Nat.ne_of_lt (Nat.lt_of_lt_of_le (by have := World.block_lt_of_cell? _ _ hw67007_0; first | rwa [add_block] at this | exact this) GW67001.out) | (rw [add_block]; exact Nat.ne_of_lt (Nat.lt_of_lt_of_le (by have := World.block_lt_of_cell? _ _ hw67007_0; first | rwa [add_block] at this | exact this) GW67001.out)) | (show (Addr.add _ _).block ≠ _; rw [add_block]; exact Nat.ne_of_lt (Nat.lt_of_lt_of_le (by have := World.block_lt_of_cell? _ _ hw67007_0; first | rwa [add_block] at this | exact this) GW67001.out)) | (dsimp only; exact Nat.ne_of_lt (Nat.lt_of_lt_of_le (by have := World.block_lt_of_cell? _ _ hw67007_0; first | rwa [add_block] at this | exact this) GW67001.out))) _).trans (hHeld.2.2.2.1)))))))), ((cell_far (p := ⟨gb67001, _, none⟩) (by first | exact Nat.ne_of_lt (Nat.lt_of_lt_of_le (by have := World.block_lt_of_cell? _ _ hw67007_1; first | rwa [add_block] at this | exact this) GW67001.out) | (rw [add_block]; exact Nat.ne_of_lt (Nat.lt_of_lt_of_le (by have := World.block_lt_of_cell? _ _ hw67007_1; first | rwa [add_block] at this | exact this) GW67001.out)) | (show (Addr.add _ _).block ≠ _; rw [add_block]; exact Nat.ne_of_lt (Nat.lt_of_lt_of_le (by have := World.block_lt_of_cell? _ _ hw67007_1; first | rwa [add_block] at this | exact this) GW67001.out)) | (dsimp only; exact Nat.ne_of_lt (Nat.lt_of_lt_of_le (by have := World.block_lt_of_cell? _ _ hw67007_1; first | rwa [add_block] at this | exact this) GW67001.out))) _).trans (((cell_far (p := ⟨gb67001, _, none⟩) (by first | exact Nat.ne_of_lt (Nat.lt_of_lt_of_le (by have := World.block_lt_of_cell? _ _ hw67007_1; first | rwa [add_block] at this | exact this) GW67001.out) | (rw [add_block]; exact Nat.ne_of_lt (Nat.lt_of_lt_of_le (by have := World.block_lt_of_cell? _ _ hw67007_1; first | rwa [add_block] at this | exact this) GW67001.out)) | (show (Addr.add _ _).block ≠ _; rw [add_block]; exact Nat.ne_of_lt (Nat.lt_of_lt_of_le (by have := World.block_lt_of_cell? _ _ hw67007_1; first | rwa [add_block] at this | exact this) GW67001.out)) | (dsimp only; exact Nat.ne_of_lt (Nat.lt_of_lt_of_le (by have := World.block_lt_of_cell? _ _ hw67007_1; first | rwa [add_block] at this | exact this) GW67001.out))) _).trans (((cell_far (p := ⟨gb67001, _, none⟩) (by first | exact Nat.ne_of_lt (Nat.lt_of_lt_of_le (by have := World.block_lt_of_cell? _ _ hw67007_1; first | rwa [add_block] at this | exact this) GW67001.out) | (rw [add_block]; exact Nat.ne_of_lt (Nat.lt_of_lt_of_le (by have := World.block_lt_of_cell? _ _ hw67007_1; first | rwa [add_block] at this | exact this) GW67001.out)) | (show (Addr.add _ _).block ≠ _; rw [add_block]; exact Nat.ne_of_lt (Nat.lt_of_lt_of_le (by have := World.block_lt_of_cell? _ _ hw67007_1; first | rwa [add_block] at this | exact this) GW67001.out)) | (dsimp only; exact Nat.ne_of_lt (Nat.lt_of_lt_of_le (by have := World.block_lt_of_cell? _ _ hw67007_1; first | rwa [add_block] at this | exact this) GW67001.out))) _).trans (((cell_far (p := ⟨gb67001, _, none⟩) (by first | exact Nat.ne_of_lt (Nat.lt_of_lt_of_le (by have := World.block_lt_of_cell? _ _ hw67007_1; first | rwa [add_block] at this | exact this) GW67001.out) | (rw [add_block]; exact Nat.ne_of_lt (Nat.lt_of_lt_of_le (by have := World.block_lt_of_cell? _ _ hw67007_1; first | rwa [add_block] at this | exact this) GW67001.out)) | (show (Addr.add _ _).block ≠ _; rw [add_block]; exact Nat.ne_of_lt (Nat.lt_of_lt_of_le (by have := World.block_lt_of_cell? _ _ hw67007_1; first | rwa [add_block] at this | exact this) GW67001.out)) | (dsimp only; exact Nat.ne_of_lt (Nat.lt_of_lt_of_le (by have := World.block_lt_of_cell? _ _ hw67007_1; first | rwa [add_block] at this | exact this) GW67001.out))) _).trans (hHeld.2.2.2.2.1)))))))), ((cell_far (p := ⟨gb67001, _, none⟩) (by first | exact Nat.ne_of_lt (Nat.lt_of_lt_of_le (by have := World.block_lt_of_cell? _ _ hw67007_2; first | rwa [add_block] at this | exact this) GW67001.out) | (rw [add_block]; exact Nat.ne_of_lt (Nat.lt_of_lt_of_le (by have := World.block_lt_of_cell? _ _ hw67007_2; first | rwa [add_block] at this | exact this) GW67001.out)) | (show (Addr.add _ _).block ≠ _; rw [add_block]; exact Nat.ne_of_lt (Nat.lt_of_lt_of_le (by have := World.block_lt_of_cell? _ _ hw67007_2; first | rwa [add_block] at this | exact this) GW67001.out)) | (dsimp only; exact Nat.ne_of_lt (Nat.lt_of_lt_of_le (by have := World.block_lt_of_cell? _ _ hw67007_2; first | rwa [add_block] at this | exact this) GW67001.out))) _).trans (((cell_far (p := ⟨gb67001, _, none⟩) (by first | exact Nat.ne_of_lt (Nat.lt_of_lt_of_le (by have := World.block_lt_of_cell? _ _ hw67007_2; first | rwa [add_block] at this | exact this) GW67001.out) | (rw [add_block]; exact Nat.ne_of_lt (Nat.lt_of_lt_of_le (by have := World.block_lt_of_cell? _ _ hw67007_2; first | rwa [add_block] at this | exact this) GW67001.out)) | (show (Addr.add _ _).block ≠ _; rw [add_block]; exact Nat.ne_of_lt (Nat.lt_of_lt_of_le (by have := World.block_lt_of_cell? _ _ hw67007_2; first | rwa [add_block] at this | exact this) GW67001.out)) | (dsimp only; exact Nat.ne_of_lt (Nat.lt_of_lt_of_le (by have := World.block_lt_of_cell? _ _ hw67007_2; first | rwa [add_block] at this | exact this) GW67001.out))) _).trans (((cell_far (p := ⟨gb67001, _, none⟩) (by first | exact Nat.ne_of_lt (Nat.lt_of_lt_of_le (by have := World.block_lt_of_cell? _ _ hw67007_2; first | rwa [add_block] at this | exact this) GW67001.out) | (rw [add_block]; exact Nat.ne_of_lt (Nat.lt_of_lt_of_le (by have := World.block_lt_of_cell? _ _ hw67007_2; first | rwa [add_block] at this | exact this) GW67001.out)) | (show (Addr.add _ _).block ≠ _; rw [add_block]; exact Nat.ne_of_lt (Nat.lt_of_lt_of_le (by have := World.block_lt_of_cell? _ _ hw67007_2; first | rwa [add_block] at this | exact this) GW67001.out)) | (dsimp only; exact Nat.ne_of_lt (Nat.lt_of_lt_of_le (by have := World.block_lt_of_cell? _ _ hw67007_2; first | rwa [add_block] at this | exact this) GW67001.out))) _).trans (((cell_far (p := ⟨gb67001, _, none⟩) (by first | exact Nat.ne_of_lt (Nat.lt_of_lt_of_le (by have := World.block_lt_of_cell? _ _ hw67007_2; first | rwa [add_block] at this | exact this) GW67001.out) | (rw [add_block]; exact Nat.ne_of_lt (Nat.lt_of_lt_of_le (by have := World.block_lt_of_cell? _ _ hw67007_2; first | rwa [add_block] at this | exact this) GW67001.out)) | (show (Addr.add _ _).block ≠ _; rw [add_block]; exact Nat.ne_of_lt (Nat.lt_of_lt_of_le (by have := World.block_lt_of_cell? _ _ hw67007_2; first | rwa [add_block] at this | exact this) GW67001.out)) | (dsimp only; exact Nat.ne_of_lt (Nat.lt_of_lt_of_le (by have := World.block_lt_of_cell? _ _ hw67007_2; first | rwa [add_block] at this | exact this) GW67001.out))) _).trans (hHeld.2.2.2.2.2.1)))))))), ((cell_far (p := ⟨gb67001, _, none⟩) (by first | exact Nat.ne_of_lt (Nat.lt_of_lt_of_le (by have := World.block_lt_of_cell? _ _ hw67008_0; first | rwa [add_block] at this | exact this) GW67001.out) | (rw [add_block]; exact Nat.ne_of_lt (Nat.lt_of_lt_of_le (by have := World.block_lt_of_cell? _ _ hw67008_0; first | rwa [add_block] at this | exact this) GW67001.out)) | (show (Addr.add _ _).block ≠ _; rw [add_block]; exact Nat.ne_of_lt (Nat.lt_of_lt_of_le (by have := World.block_lt_of_cell? _ _ hw67008_0; first | rwa [add_block] at this | exact this) GW67001.out)) | (dsimp only; exact Nat.ne_of_lt (Nat.lt_of_lt_of_le (by have := World.block_lt_of_cell? _ _ hw67008_0; first | rwa [add_block] at this | exact this) GW67001.out))) _).trans (((cell_far (p := ⟨gb67001, _, none⟩) (by first | exact Nat.ne_of_lt (Nat.lt_of_lt_of_le (by have := World.block_lt_of_cell? _ _ hw67008_0; first | rwa [add_block] at this | exact this) GW67001.out) | (rw [add_block]; exact Nat.ne_of_lt (Nat.lt_of_lt_of_le (by have := World.block_lt_of_cell? _ _ hw67008_0; first | rwa [add_block] at this | exact this) GW67001.out)) | (show (Addr.add _ _).block ≠ _; rw [add_block]; exact Nat.ne_of_lt (Nat.lt_of_lt_of_le (by have := World.block_lt_of_cell? _ _ hw67008_0; first | rwa [add_block] at this | exact this) GW67001.out)) | (dsimp only; exact Nat.ne_of_lt (Nat.lt_of_lt_of_le (by have := World.block_lt_of_cell? _ _ hw67008_0; first | rwa [add_block] at this | exact this) GW67001.out))) _).trans (((cell_far (p := ⟨gb67001, _, none⟩) (by first | exact Nat.ne_of_lt (Nat.lt_of_lt_of_le (by have := World.block_lt_of_cell? _ _ hw67008_0; first | rwa [add_block] at this | exact this) GW67001.out) | (rw [add_block]; exact Nat.ne_of_lt (Nat.lt_of_lt_of_le (by have := World.block_lt_of_cell? _ _ hw67008_0; first | rwa [add_block] at this | exact this) GW67001.out)) | (show (Addr.add _ _).block ≠ _; rw [add_block]; exact Nat.ne_of_lt (Nat.lt_of_lt_of_le (by have := World.block_lt_of_cell? _ _ hw67008_0; first | rwa [add_block] at this | exact this) GW67001.out)) | (dsimp only; exact Nat.ne_of_lt (Nat.lt_of_lt_of_le (by have := World.block_lt_of_cell? _ _ hw67008_0; first | rwa [add_block] at this | exact this) GW67001.out))) _).trans (((cell_far (p := ⟨gb67001, _, none⟩) (by first | exact Nat.ne_of_lt (Nat.lt_of_lt_of_le (by have := World.block_lt_of_cell? _ _ hw67008_0; first | rwa [add_block] at this | exact this) GW67001.out) | (rw [add_block]; exact Nat.ne_of_lt (Nat.lt_of_lt_of_le (by have := World.block_lt_of_cell? _ _ hw67008_0; first | rwa [add_block] at this | exact this) GW67001.out)) | (show (Addr.add _ _).block ≠ _; rw [add_block]; exact Nat.ne_of_lt (Nat.lt_of_lt_of_le (by have := World.block_lt_of_cell? _ _ hw67008_0; first | rwa [add_block] at this | exact this) GW67001.out)) | (dsimp only; exact Nat.ne_of_lt (Nat.lt_of_lt_of_le (by have := World.block_lt_of_cell? _ _ hw67008_0; first | rwa [add_block] at this | exact this) GW67001.out))) _).trans (hHeld.2.2.2.2.2.2.1)))))))), ((cell_far (p := ⟨gb67001, _, none⟩) (by first | exact Nat.ne_of_lt (Nat.lt_of_lt_of_le (by have := World.block_lt_of_cell? _ _ hw67008_1; first | rwa [add_block] at this | exact this) GW67001.out) | (rw [add_block]; exact Nat.ne_of_lt (Nat.lt_of_lt_of_le (by have := World.block_lt_of_cell? _ _ hw67008_1; first | rwa [add_block] at this | exact this) GW67001.out)) | (show (Addr.add _ _).block ≠ _; rw [add_block]; exact Nat.ne_of_lt (Nat.lt_of_lt_of_le (by have := World.block_lt_of_cell? _ _ hw67008_1; first | rwa [add_block] at this | exact this) GW67001.out)) | (dsimp only; exact Nat.ne_of_lt (Nat.lt_of_lt_of_le (by have := World.block_lt_of_cell? _ _ hw67008_1; first | rwa [add_block] at this | exact this) GW67001.out))) _).trans (((cell_far (p := ⟨gb67001, _, none⟩) (by first | exact Nat.ne_of_lt (Nat.lt_of_lt_of_le (by have := World.block_lt_of_cell? _ _ hw67008_1; first | rwa [add_block] at this | exact this) GW67001.out) | (rw [add_block]; exact Nat.ne_of_lt (Nat.lt_of_lt_of_le (by have := World.block_lt_of_cell? _ _ hw67008_1; first | rwa [add_block] at this | exact this) GW67001.out)) | (show (Addr.add _ _).block ≠ _; rw [add_block]; exact Nat.ne_of_lt (Nat.lt_of_lt_of_le (by have := World.block_lt_of_cell? _ _ hw67008_1; first | rwa [add_block] at this | exact this) GW67001.out)) | (dsimp only; exact Nat.ne_of_lt (Nat.lt_of_lt_of_le (by have := World.block_lt_of_cell? _ _ hw67008_1; first | rwa [add_block] at this | exact this) GW67001.out))) _).trans (((cell_far (p := ⟨gb67001, _, none⟩) (by first | exact Nat.ne_of_lt (Nat.lt_of_lt_of_le (by have := World.block_lt_of_cell? _ _ hw67008_1; first | rwa [add_block] at this | exact this) GW67001.out) | (rw [add_block]; exact Nat.ne_of_lt (Nat.lt_of_lt_of_le (by have := World.block_lt_of_cell? _ _ hw67008_1; first | rwa [add_block] at this | exact this) GW67001.out)) | (show (Addr.add _ _).block ≠ _; rw [add_block]; exact Nat.ne_of_lt (Nat.lt_of_lt_of_le (by have := World.block_lt_of_cell? _ _ hw67008_1; first | rwa [add_block] at this | exact this) GW67001.out)) | (dsimp only; exact Nat.ne_of_lt (Nat.lt_of_lt_of_le (by have := World.block_lt_of_cell? _ _ hw67008_1; first | rwa [add_block] at this | exact this) GW67001.out))) _).trans (((cell_far (p := ⟨gb67001, _, none⟩) (by first | exact Nat.ne_of_lt (Nat.lt_of_lt_of_le (by have := World.block_lt_of_cell? _ _ hw67008_1; first | rwa [add_block] at this | exact this) GW67001.out) | (rw [add_block]; exact Nat.ne_of_lt (Nat.lt_of_lt_of_le (by have := World.block_lt_of_cell? _ _ hw67008_1; first | rwa [add_block] at this | exact this) GW67001.out)) | (show (Addr.add _ _).block ≠ _; rw [add_block]; exact Nat.ne_of_lt (Nat.lt_of_lt_of_le (by have := World.block_lt_of_cell? _ _ hw67008_1; first | rwa [add_block] at this | exact this) GW67001.out)) | (dsimp only; exact Nat.ne_of_lt (Nat.lt_of_lt_of_le (by have := World.block_lt_of_cell? _ _ hw67008_1; first | rwa [add_block] at this | exact this) GW67001.out))) _).trans (hHeld.2.2.2.2.2.2.2.1)))))))), ((cell_far (p := ⟨gb67001, _, none⟩) (by first | exact Nat.ne_of_lt (Nat.lt_of_lt_of_le (by have := World.block_lt_of_cell? _ _ hw67008_2; first | rwa [add_block] at this | exact this) GW67001.out) | (rw [add_block]; exact Nat.ne_of_lt (Nat.lt_of_lt_of_le (by have := World.block_lt_of_cell? _ _ hw67008_2; first | rwa [add_block] at this | exact this) GW67001.out)) | (show (Addr.add _ _).block ≠ _; rw [add_block]; exact Nat.ne_of_lt (Nat.lt_of_lt_of_le (by have := World.block_lt_of_cell? _ _ hw67008_2; first | rwa [add_block] at this | exact this) GW67001.out)) | (dsimp only; exact Nat.ne_of_lt (Nat.lt_of_lt_of_le (by have := World.block_lt_of_cell? _ _ hw67008_2; first | rwa [add_block] at this | exact this) GW67001.out))) _).trans (((cell_far (p := ⟨gb67001, _, none⟩) (by first | exact Nat.ne_of_lt (Nat.lt_of_lt_of_le (by have := World.block_lt_of_cell? _ _ hw67008_2; first | rwa [add_block] at this | exact this) GW67001.out) | (rw [add_block]; exact Nat.ne_of_lt (Nat.lt_of_lt_of_le (by have := World.block_lt_of_cell? _ _ hw67008_2; first | rwa [add_block] at this | exact this) GW67001.out)) | (show (Addr.add _ _).block ≠ _; rw [add_block]; exact Nat.ne_of_lt (Nat.lt_of_lt_of_le (by have := World.block_lt_of_cell? _ _ hw67008_2; first | rwa [add_block] at this | exact this) GW67001.out)) | (dsimp only; exact Nat.ne_of_lt (Nat.lt_of_lt_of_le (by have := World.block_lt_of_cell? _ _ hw67008_2; first | rwa [add_block] at this | exact this) GW67001.out))) _).trans (((cell_far (p := ⟨gb67001, _, none⟩) (by first | exact Nat.ne_of_lt (Nat.lt_of_lt_of_le (by have := World.block_lt_of_cell? _ _ hw67008_2; first | rwa [add_block] at this | exact this) GW67001.out) | (rw [add_block]; exact Nat.ne_of_lt (Nat.lt_of_lt_of_le (by have := World.block_lt_of_cell? _ _ hw67008_2; first | rwa [add_block] at this | exact this) GW67001.out)) | (show (Addr.add _ _).block ≠ _; rw [add_block]; exact Nat.ne_of_lt (Nat.lt_of_lt_of_le (by have := World.block_lt_of_cell? _ _ hw67008_2; first | rwa [add_block] at this | exact this) GW67001.out)) | (dsimp only; exact Nat.ne_of_lt (Nat.lt_of_lt_of_le (by have := World.block_lt_of_cell? _ _ hw67008_2; first | rwa [add_block] at this | exact this) GW67001.out))) _).trans (((cell_far (p := ⟨gb67001, _, none⟩) (by first | exact Nat.ne_of_lt (Nat.lt_of_lt_of_le (by have := World.block_lt_of_cell? _ _ hw67008_2; first | rwa [add_block] at this | exact this) GW67001.out) | (rw [add_block]; exact Nat.ne_of_lt (Nat.lt_of_lt_of_le (by have := World.block_lt_of_cell? _ _ hw67008_2; first | rwa [add_block] at this | exact this) GW67001.out)) | (show (Addr.add _ _).block ≠ _; rw [add_block]; exact Nat.ne_of_lt (Nat.lt_of_lt_of_le (by have := World.block_lt_of_cell? _ _ hw67008_2; first | rwa [add_block] at this | exact this) GW67001.out)) | (dsimp only; exact Nat.ne_of_lt (Nat.lt_of_lt_of_le (by have := World.block_lt_of_cell? _ _ hw67008_2; first | rwa [add_block] at this | exact this) GW67001.out))) _).trans (hHeld.2.2.2.2.2.2.2.2))))))))⟩ (fun hHeld => ?_)
                clear hK K
                refine done_ (done_of HT_.out (by kernel_rfl)) ?_
                try go_wp2
                refine bodyPost_ret (results_cell_row rfl _ _ gb67001 36 #[.int .i64 x3_1, .int .i64 ((rd_T57 l0 0).f0), .int .i64 (wrap64 (x4_1 - x3_1)), .int .i64 (wrap64 ((wrap64 (((rd_T57 l0 (ji9)).f0) - ((rd_T57 l0 0).f0))) + 1))] (0, 0) _ rfl (by (with_reducible repeat (first | refine blk_drewN ?_ _ | refine blk_drew ?_ | refine blk_alloc ?_ _)); refine blk_put (cs := #[.int .i64 x3_1, .int .i64 ((rd_T57 l0 0).f0), .int .i64 (wrap64 (x4_1 - x3_1)), .int .i64 0]) ?_ 3 _ rfl; (with_reducible repeat (first | refine blk_drewN ?_ _ | refine blk_drew ?_ | refine blk_alloc ?_ _)); refine blk_put (cs := #[.int .i64 x3_1, .int .i64 ((rd_T57 l0 0).f0), .int .i64 0, .int .i64 0]) ?_ 2 _ rfl; (with_reducible repeat (first | refine blk_drewN ?_ _ | refine blk_drew ?_ | refine blk_alloc ?_ _)); refine blk_put (cs := #[.int .i64 x3_1, .int .i64 0, .int .i64 0, .int .i64 0]) ?_ 1 _ rfl; (with_reducible repeat (first | refine blk_drewN ?_ _ | refine blk_drew ?_ | refine blk_alloc ?_ _)); refine blk_put (cs := #[.int .i64 0, .int .i64 0, .int .i64 0, .int .i64 0]) ?_ 0 _ rfl; (with_reducible repeat (first | refine blk_drewN ?_ _ | refine blk_drew ?_ | refine blk_alloc ?_ _)); exact BK67001.out) Try.underlying36 rfl (by kernel_rfl)) rfl ?_
                exact ⟨by first | rfl | (simp [errW_none, errW_some] <;> rfl) | (simp only [← hji9]; first | rfl | (simp [errW_none, errW_some] <;> rfl)) | (simp [*, errW_none, errW_some] <;> rfl), by repeat (first | (with_reducible first | exact HB.out | apply below_alloc | apply pw_below_drewN | apply below_drew1 | refine below_set ?_ GE67001.out) | exact HB.out)⟩
              · rw [if_neg c11] at H
                exact absurd H (by simp)
            · rw [if_neg c10] at H
              exact absurd H (by simp)
          · rw [if_neg c8] at H
            exact absurd H (by simp)
  · rw [if_neg c2] at H
    exact absurd H (by simp)

end Go.Proofs.Ytfgeickfheogoaa.Q

namespace Go.Proofs.Ytfgeickfheogoaa.Q
open Go.RowKit Go.Proofs.YtfgeickfheogoaaW.PrintWords Go.Proofs.YtfgeickfheogoaaW.PrintLast Go.Proofs.YtfgeickfheogoaaW.PrintMore
attribute [local go_sem] max2_int min2_int max_two min_two max_three min_three max_four min_four
set_option linter.unusedVariables false
set_option linter.unusedSimpArgs false
/-! ### spec_BoundsOf: function 31 -/
def spec_BoundsOf.f (k : Nat) (l0 : List (S57)) : Option (Int × Int × Int × Int × Bool) := (spec_validRuns.f k l0).bind fun t32002 => (if t32002 = true then (if (l0.length : Int) = 0 then (some (0, 0, 0, 0, false)) else ((spec_boundsOf.f k l0).bind fun bt32003 => (some (bt32003.1, bt32003.2.1, bt32003.2.2.1, bt32003.2.2.2, true)))) else (some (0, 0, 0, 0, false)))
theorem spec_BoundsOf.mono : ∀ a0 k, LeO (spec_BoundsOf.f k a0) (spec_BoundsOf.f (k + 1) a0) := by
  intro a0 k
  unfold spec_BoundsOf.f
  repeat' first
      | (with_reducible exact spec_boundsOf.mono _ _)
      | (with_reducible exact spec_validRuns.mono _ _)
      | (with_reducible exact LeO.refl _)
      | (with_reducible exact LeO.none _)
      | (with_reducible refine LeO.ite ?_ ?_)
      | (with_reducible refine LeO.bind ?_ (fun _ => ?_))
      | exact spec_boundsOf.mono _ _
      | exact spec_validRuns.mono _ _
      | exact LeO.none _
      | refine LeO.ite ?_ ?_
      | refine LeO.bind ?_ (fun _ => ?_)
set_option maxHeartbeats 8000000 in
set_option maxRecDepth 100000 in
theorem spec_BoundsOf.calls (k : Nat) (A0 : Option Addr) (c0 : Nat) (l0 : List (S57)) (r1 : Int) (r2 : Int) (r3 : Int) (r4 : Int) (r5 : Bool) (w : World) (hr0 : Kd.C k57 w A0 l0.length l0) (hc0 : l0.length ≤ c0) (h : spec_BoundsOf.f k l0 = some (r1, r2, r3, r4, r5)) :
    Calls Try.prog 31 #[.slice A0 l0.length c0] w fun e w' => e = .returned (.tuple #[.agg #[.int .i64 r1, .int .i64 r2, .int .i64 r3, .int .i64 r4], .bool r5]) ∧ Below w.heap.size w w' := by
  have hu36 := Try.underlying36
  have HR0 := Aside0.mk hr0
  have HC0 := Aside0.mk hc0
  clear hr0 hc0
  have HB := Aside0.mk (Below.refl w.heap.size w)
  have H : ((spec_validRuns.f k l0).bind fun t32002 => (if t32002 = true then (if (l0.length : Int) = 0 then (some (0, 0, 0, 0, false)) else ((spec_boundsOf.f k l0).bind fun bt32003 => (some (bt32003.1, bt32003.2.1, bt32003.2.2.1, bt32003.2.2.2, true)))) else (some (0, 0, 0, 0, false)))) = some (r1, r2, r3, r4, r5) := h
  clear h
  replace H := Option.bind_eq_some_iff.mp H
  obtain ⟨t32002, A20, H⟩ := H
  replace H : (if t32002 = true then (if (l0.length : Int) = 0 then (some (0, 0, 0, 0, false)) else ((spec_boundsOf.f k l0).bind fun bt32003 => (some (bt32003.1, bt32003.2.1, bt32003.2.2.1, bt32003.2.2.2, true)))) else (some (0, 0, 0, 0, false))) = some (r1, r2, r3, r4, r5) := H
  have A2 := Aside0.mk A20
  clear A20
  by_cases c3 : t32002 = true
  · subst c3
    have H1 : (if (l0.length : Int) = 0 then (some (0, 0, 0, 0, false)) else ((spec_boundsOf.f k l0).bind fun bt32003 => (some (bt32003.1, bt32003.2.1, bt32003.2.2.1, bt32003.2.2.2, true)))) = some (r1, r2, r3, r4, r5) := by rw [if_pos rfl] at H; exact H
    clear H
    have H := H1
    clear H1
    by_cases c4 : (l0.length : Int) = 0
    · rw [if_pos c4] at H
      have c4b0 : ((l0.length : Int) == 0) = true := beq_iff_eq.mpr c4
      have c4b1 : ((l0.length : Int) != 0) = false := bne_eq_false_iff_eq.mpr c4
      clear c4
      simp only [Option.some.injEq, Prod.mk.injEq] at H
      obtain ⟨rfl, rfl, rfl, rfl, rfl⟩ := H
      go_enter Try.func31, Try.ntmps31
      go_wp2_with (first | ((with_reducible refine gate_dst (N := 2) rfl ?_); (try (refine gate_guard (by rfl) ?_; dsimp only)); refine box_event ?hg (N := 2) ?hd (cs := #[.int .i64 0, .int .i64 0, .int .i64 0, .int .i64 0]) (t := 36) ?hr ?_; (case hd => rfl); (case hg => rfl); (case hr => first | (go_simp; done) | (go_simp; rfl)); intro gb32001 hg w5 hbox hb; have n0_ := Aside0.mk (below_step (by repeat (first | (with_reducible first | exact HB.out | apply below_alloc | apply pw_below_drewN | apply below_drew1) | exact HB.out)) hb); have n1_ := Aside0.mk (hbox); have n2_ := Aside0.mk ((by rw [hg]; exact (below_size (by repeat (first | (with_reducible first | exact HB.out | apply below_alloc | apply pw_below_drewN | apply below_drew1) | exact HB.out))) : w.heap.size ≤ gb32001)); have n3_ := Aside0.mk ((by rw [hg]; exact (below_size (by repeat (first | (with_reducible first | exact HB.out | apply below_alloc | apply pw_below_drewN | apply below_drew1) | exact HB.out))) : w.heap.size ≤ gb32001)); clear HB; have HB := n0_; have BK32001 := n1_; have GW32001 := n2_; have GE32001 := n3_; clear n0_ n1_ n2_ n3_; clear hb hbox hg) | ((with_reducible refine gate_callee (f := 53) rfl ?_); refine goesL_ (some 5) rfl rfl Try.func53 (by kernel_rfl) rfl #[.slice A0 l0.length c0] rfl (by (try simp only [List.map_toArray, List.map_cons, List.map_nil]); first | done | rfl | (simp only [List.length_drop, List.length_take]; rfl)) ?_; (with_reducible refine (spec_validRuns.calls k _ _ l0 true _ ?side1 ?side2 A2.out).mono ?_); (case side1 => repeat (first | exact (Kd.C_below HR0.out HB.out) | (with_reducible refine Kd.C_alloc ?_ _) | (with_reducible refine Kd.C_drewN ?_ _) | (with_reducible refine Kd.C_drew ?_))); (case side2 => exact HC0.out); rintro e w6 ⟨rfl, hb⟩; refine ⟨_, rfl, ?_⟩; have n0_ := Aside0.mk (blk_below (g := gb32001) (o := .cells #[.int .i64 0, .int .i64 0, .int .i64 0, .int .i64 0] 36 (0, 0)) (by (with_reducible repeat (first | refine blk_drewN ?_ _ | refine blk_drew ?_ | refine blk_alloc ?_ _)); exact BK32001.out) hb); have n1_ := Aside0.mk (below_step (by repeat (first | (with_reducible first | exact HB.out | apply below_alloc | apply pw_below_drewN | apply below_drew1 | refine below_set ?_ GE32001.out) | exact HB.out)) hb); clear BK32001; clear HB; have BK32001 := n0_; have HB := n1_; clear n0_ n1_; (try clear hb); (try clear hb2); (try clear hk); (try clear hi); have hcz7_0 : w6.cell? ⟨gb32001, 0, none⟩ = some (.int .i64 0) := (blk_cell BK32001.out 0).trans rfl; have hcz7_1 : w6.cell? ⟨gb32001, 1, none⟩ = some (.int .i64 0) := (blk_cell BK32001.out 1).trans rfl; have hcz7_2 : w6.cell? ⟨gb32001, 2, none⟩ = some (.int .i64 0) := (blk_cell BK32001.out 2).trans rfl; have hcz7_3 : w6.cell? ⟨gb32001, 3, none⟩ = some (.int .i64 0) := (blk_cell BK32001.out 3).trans rfl; have hfz7_0 := blk_frozen BK32001.out 0; have hfz7_1 := blk_frozen BK32001.out 1; have hfz7_2 := blk_frozen BK32001.out 2; have hfz7_3 := blk_frozen BK32001.out 3))
      refine bodyPost_ret (results_ct rfl _ _ gb32001 36 #[.int .i64 0, .int .i64 0, .int .i64 0, .int .i64 0] (0, 0) _ rfl (by (with_reducible repeat (first | refine blk_drewN ?_ _ | refine blk_drew ?_ | refine blk_alloc ?_ _)); refine blk_put (cs := #[.int .i64 0, .int .i64 0, .int .i64 0, .int .i64 0]) ?_ 3 _ rfl; (with_reducible repeat (first | refine blk_drewN ?_ _ | refine blk_drew ?_ | refine blk_alloc ?_ _)); refine blk_put (cs := #[.int .i64 0, .int .i64 0, .int .i64 0, .int .i64 0]) ?_ 2 _ rfl; (with_reducible repeat (first | refine blk_drewN ?_ _ | refine blk_drew ?_ | refine blk_alloc ?_ _)); refine blk_put (cs := #[.int .i64 0, .int .i64 0, .int .i64 0, .int .i64 0]) ?_ 1 _ rfl; (with_reducible repeat (first | refine blk_drewN ?_ _ | refine blk_drew ?_ | refine blk_alloc ?_ _)); refine blk_put (cs := #[.int .i64 0, .int .i64 0, .int .i64 0, .int .i64 0]) ?_ 0 _ rfl; (with_reducible repeat (first | refine blk_drewN ?_ _ | refine blk_drew ?_ | refine blk_alloc ?_ _)); exact BK32001.out) Try.underlying36 rfl (by kernel_rfl)) rfl ?_
      exact ⟨by first | rfl | (simp [errW_none, errW_some] <;> rfl) | (simp [*, errW_none, errW_some] <;> rfl), by repeat (first | (with_reducible first | exact HB.out | apply below_alloc | apply pw_below_drewN | apply below_drew1 | refine below_set ?_ GE32001.out) | exact HB.out)⟩
    · rw [if_neg c4] at H
      have c4b0 : ((l0.length : Int) == 0) = false := beq_eq_false_iff_ne.mpr c4
      have c4b1 : ((l0.length : Int) != 0) = true := bne_iff_ne.mpr c4
      have c4b2 : ¬ (l0 = []) := fun h_ => c4 (by rw [h_]; rfl)
      replace H := Option.bind_eq_some_iff.mp H
      obtain ⟨⟨t32003, t32004, t32005, t32006⟩, A80, H⟩ := H
      replace H : (some (t32003, t32004, t32005, t32006, true)) = some (r1, r2, r3, r4, r5) := H
      have A8 := Aside0.mk A80
      clear A80
      simp only [Option.some.injEq, Prod.mk.injEq] at H
      obtain ⟨rfl, rfl, rfl, rfl, rfl⟩ := H
      go_enter Try.func31, Try.ntmps31
      go_wp2_with (first | ((with_reducible refine gate_dst (N := 2) rfl ?_); (try (refine gate_guard (by rfl) ?_; dsimp only)); refine box_event ?hg (N := 2) ?hd (cs := #[.int .i64 0, .int .i64 0, .int .i64 0, .int .i64 0]) (t := 36) ?hr ?_; (case hd => rfl); (case hg => rfl); (case hr => first | (go_simp; done) | (go_simp; rfl)); intro gb32001 hg w9 hbox hb; have n0_ := Aside0.mk (below_step (by repeat (first | (with_reducible first | exact HB.out | apply below_alloc | apply pw_below_drewN | apply below_drew1) | exact HB.out)) hb); have n1_ := Aside0.mk (hbox); have n2_ := Aside0.mk ((by rw [hg]; exact (below_size (by repeat (first | (with_reducible first | exact HB.out | apply below_alloc | apply pw_below_drewN | apply below_drew1) | exact HB.out))) : w.heap.size ≤ gb32001)); have n3_ := Aside0.mk ((by rw [hg]; exact (below_size (by repeat (first | (with_reducible first | exact HB.out | apply below_alloc | apply pw_below_drewN | apply below_drew1) | exact HB.out))) : w.heap.size ≤ gb32001)); clear HB; have HB := n0_; have BK32001 := n1_; have GW32001 := n2_; have GE32001 := n3_; clear n0_ n1_ n2_ n3_; clear hb hbox hg) | ((with_reducible refine gate_callee (f := 53) rfl ?_); refine goesL_ (some 5) rfl rfl Try.func53 (by kernel_rfl) rfl #[.slice A0 l0.length c0] rfl (by (try simp only [List.map_toArray, List.map_cons, List.map_nil]); first | done | rfl | (simp only [List.length_drop, List.length_take]; rfl)) ?_; (with_reducible refine (spec_validRuns.calls k _ _ l0 true _ ?side1 ?side2 A2.out).mono ?_); (case side1 => repeat (first | exact (Kd.C_below HR0.out HB.out) | (with_reducible refine Kd.C_alloc ?_ _) | (with_reducible refine Kd.C_drewN ?_ _) | (with_reducible refine Kd.C_drew ?_))); (case side2 => exact HC0.out); rintro e w10 ⟨rfl, hb⟩; refine ⟨_, rfl, ?_⟩; have n0_ := Aside0.mk (blk_below (g := gb32001) (o := .cells #[.int .i64 0, .int .i64 0, .int .i64 0, .int .i64 0] 36 (0, 0)) (by (with_reducible repeat (first | refine blk_drewN ?_ _ | refine blk_drew ?_ | refine blk_alloc ?_ _)); exact BK32001.out) hb); have n1_ := Aside0.mk (below_step (by repeat (first | (with_reducible first | exact HB.out | apply below_alloc | apply pw_below_drewN | apply below_drew1 | refine below_set ?_ GE32001.out) | exact HB.out)) hb); clear BK32001; clear HB; have BK32001 := n0_; have HB := n1_; clear n0_ n1_; (try clear hb); (try clear hb2); (try clear hk); (try clear hi)) | ((with_reducible refine gate_callee (f := 66) rfl ?_); refine goesL_ (some 14) rfl rfl Try.func66 (by kernel_rfl) rfl #[.slice A0 l0.length c0] rfl (by (try simp only [List.map_toArray, List.map_cons, List.map_nil]); first | done | rfl | (simp only [List.length_drop, List.length_take]; rfl)) ?_; (with_reducible refine (spec_boundsOf.calls k _ _ l0 t32003 t32004 t32005 t32006 _ ?side1 ?side2 A8.out).mono ?_); (case side1 => repeat (first | exact (Kd.C_below HR0.out HB.out) | (with_reducible refine Kd.C_alloc ?_ _) | (with_reducible refine Kd.C_drewN ?_ _) | (with_reducible refine Kd.C_drew ?_))); (case side2 => exact HC0.out); rintro e w11 ⟨rfl, hb⟩; refine ⟨_, rfl, ?_⟩; have n0_ := Aside0.mk (blk_below (g := gb32001) (o := .cells #[.int .i64 0, .int .i64 0, .int .i64 0, .int .i64 0] 36 (0, 0)) (by (with_reducible repeat (first | refine blk_drewN ?_ _ | refine blk_drew ?_ | refine blk_alloc ?_ _)); exact BK32001.out) hb); have n1_ := Aside0.mk (below_step (by repeat (first | (with_reducible first | exact HB.out | apply below_alloc | apply pw_below_drewN | apply below_drew1 | refine below_set ?_ GE32001.out) | exact HB.out)) hb); clear BK32001; clear HB; have BK32001 := n0_; have HB := n1_; clear n0_ n1_; (try clear hb); (try clear hb2); (try clear hk); (try clear hi); have hcz12_0 : w11.cell? ⟨gb32001, 0, none⟩ = some (.int .i64 0) := (blk_cell BK32001.out 0).trans rfl; have hcz12_1 : w11.cell? ⟨gb32001, 1, none⟩ = some (.int .i64 0) := (blk_cell BK32001.out 1).trans rfl; have hcz12_2 : w11.cell? ⟨gb32001, 2, none⟩ = some (.int .i64 0) := (blk_cell BK32001.out 2).trans rfl; have hcz12_3 : w11.cell? ⟨gb32001, 3, none⟩ = some (.int .i64 0) := (blk_cell BK32001.out 3).trans rfl; have hfz12_0 := blk_frozen BK32001.out 0; have hfz12_1 := blk_frozen BK32001.out 1; have hfz12_2 := blk_frozen BK32001.out 2; have hfz12_3 := blk_frozen BK32001.out 3))
      refine bodyPost_ret (results_ct rfl _ _ gb32001 36 #[.int .i64 t32003, .int .i64 t32004, .int .i64 t32005, .int .i64 t32006] (0, 0) _ rfl (by (with_reducible repeat (first | refine blk_drewN ?_ _ | refine blk_drew ?_ | refine blk_alloc ?_ _)); refine blk_put (cs := #[.int .i64 t32003, .int .i64 t32004, .int .i64 t32005, .int .i64 0]) ?_ 3 _ rfl; (with_reducible repeat (first | refine blk_drewN ?_ _ | refine blk_drew ?_ | refine blk_alloc ?_ _)); refine blk_put (cs := #[.int .i64 t32003, .int .i64 t32004, .int .i64 0, .int .i64 0]) ?_ 2 _ rfl; (with_reducible repeat (first | refine blk_drewN ?_ _ | refine blk_drew ?_ | refine blk_alloc ?_ _)); refine blk_put (cs := #[.int .i64 t32003, .int .i64 0, .int .i64 0, .int .i64 0]) ?_ 1 _ rfl; (with_reducible repeat (first | refine blk_drewN ?_ _ | refine blk_drew ?_ | refine blk_alloc ?_ _)); refine blk_put (cs := #[.int .i64 0, .int .i64 0, .int .i64 0, .int .i64 0]) ?_ 0 _ rfl; (with_reducible repeat (first | refine blk_drewN ?_ _ | refine blk_drew ?_ | refine blk_alloc ?_ _)); exact BK32001.out) Try.underlying36 rfl (by kernel_rfl)) rfl ?_
      exact ⟨by first | rfl | (simp [errW_none, errW_some] <;> rfl) | (simp [*, errW_none, errW_some] <;> rfl), by repeat (first | (with_reducible first | exact HB.out | apply below_alloc | apply pw_below_drewN | apply below_drew1 | refine below_set ?_ GE32001.out) | exact HB.out)⟩
  · replace c3 := Bool.eq_false_iff.mpr c3
    subst c3
    have H1 : (some (0, 0, 0, 0, false)) = some (r1, r2, r3, r4, r5) := by rw [if_neg (show ¬ (false = true) by decide)] at H; exact H
    clear H
    have H := H1
    clear H1
    simp only [Option.some.injEq, Prod.mk.injEq] at H
    obtain ⟨rfl, rfl, rfl, rfl, rfl⟩ := H
    go_enter Try.func31, Try.ntmps31
    go_wp2_with (first | ((with_reducible refine gate_dst (N := 2) rfl ?_); (try (refine gate_guard (by rfl) ?_; dsimp only)); refine box_event ?hg (N := 2) ?hd (cs := #[.int .i64 0, .int .i64 0, .int .i64 0, .int .i64 0]) (t := 36) ?hr ?_; (case hd => rfl); (case hg => rfl); (case hr => first | (go_simp; done) | (go_simp; rfl)); intro gb32001 hg w13 hbox hb; have n0_ := Aside0.mk (below_step (by repeat (first | (with_reducible first | exact HB.out | apply below_alloc | apply pw_below_drewN | apply below_drew1) | exact HB.out)) hb); have n1_ := Aside0.mk (hbox); have n2_ := Aside0.mk ((by rw [hg]; exact (below_size (by repeat (first | (with_reducible first | exact HB.out | apply below_alloc | apply pw_below_drewN | apply below_drew1) | exact HB.out))) : w.heap.size ≤ gb32001)); have n3_ := Aside0.mk ((by rw [hg]; exact (below_size (by repeat (first | (with_reducible first | exact HB.out | apply below_alloc | apply pw_below_drewN | apply below_drew1) | exact HB.out))) : w.heap.size ≤ gb32001)); clear HB; have HB := n0_; have BK32001 := n1_; have GW32001 := n2_; have GE32001 := n3_; clear n0_ n1_ n2_ n3_; clear hb hbox hg) | ((with_reducible refine gate_callee (f := 53) rfl ?_); refine goesL_ (some 5) rfl rfl Try.func53 (by kernel_rfl) rfl #[.slice A0 l0.length c0] rfl (by (try simp only [List.map_toArray, List.map_cons, List.map_nil]); first | done | rfl | (simp only [List.length_drop, List.length_take]; rfl)) ?_; (with_reducible refine (spec_validRuns.calls k _ _ l0 false _ ?side1 ?side2 A2.out).mono ?_); (case side1 => repeat (first | exact (Kd.C_below HR0.out HB.out) | (with_reducible refine Kd.C_alloc ?_ _) | (with_reducible refine Kd.C_drewN ?_ _) | (with_reducible refine Kd.C_drew ?_))); (case side2 => exact HC0.out); rintro e w14 ⟨rfl, hb⟩; refine ⟨_, rfl, ?_⟩; have n0_ := Aside0.mk (blk_below (g := gb32001) (o := .cells #[.int .i64 0, .int .i64 0, .int .i64 0, .int .i64 0] 36 (0, 0)) (by (with_reducible repeat (first | refine blk_drewN ?_ _ | refine blk_drew ?_ | refine blk_alloc ?_ _)); exact BK32001.out) hb); have n1_ := Aside0.mk (below_step (by repeat (first | (with_reducible first | exact HB.out | apply below_alloc | apply pw_below_drewN | apply below_drew1 | refine below_set ?_ GE32001.out) | exact HB.out)) hb); clear BK32001; clear HB; have BK32001 := n0_; have HB := n1_; clear n0_ n1_; (try clear hb); (try clear hb2); (try clear hk); (try clear hi); have hcz15_0 : w14.cell? ⟨gb32001, 0, none⟩ = some (.int .i64 0) := (blk_cell BK32001.out 0).trans rfl; have hcz15_1 : w14.cell? ⟨gb32001, 1, none⟩ = some (.int .i64 0) := (blk_cell BK32001.out 1).trans rfl; have hcz15_2 : w14.cell? ⟨gb32001, 2, none⟩ = some (.int .i64 0) := (blk_cell BK32001.out 2).trans rfl; have hcz15_3 : w14.cell? ⟨gb32001, 3, none⟩ = some (.int .i64 0) := (blk_cell BK32001.out 3).trans rfl; have hfz15_0 := blk_frozen BK32001.out 0; have hfz15_1 := blk_frozen BK32001.out 1; have hfz15_2 := blk_frozen BK32001.out 2; have hfz15_3 := blk_frozen BK32001.out 3))
    refine bodyPost_ret (results_ct rfl _ _ gb32001 36 #[.int .i64 0, .int .i64 0, .int .i64 0, .int .i64 0] (0, 0) _ rfl (by (with_reducible repeat (first | refine blk_drewN ?_ _ | refine blk_drew ?_ | refine blk_alloc ?_ _)); refine blk_put (cs := #[.int .i64 0, .int .i64 0, .int .i64 0, .int .i64 0]) ?_ 3 _ rfl; (with_reducible repeat (first | refine blk_drewN ?_ _ | refine blk_drew ?_ | refine blk_alloc ?_ _)); refine blk_put (cs := #[.int .i64 0, .int .i64 0, .int .i64 0, .int .i64 0]) ?_ 2 _ rfl; (with_reducible repeat (first | refine blk_drewN ?_ _ | refine blk_drew ?_ | refine blk_alloc ?_ _)); refine blk_put (cs := #[.int .i64 0, .int .i64 0, .int .i64 0, .int .i64 0]) ?_ 1 _ rfl; (with_reducible repeat (first | refine blk_drewN ?_ _ | refine blk_drew ?_ | refine blk_alloc ?_ _)); refine blk_put (cs := #[.int .i64 0, .int .i64 0, .int .i64 0, .int .i64 0]) ?_ 0 _ rfl; (with_reducible repeat (first | refine blk_drewN ?_ _ | refine blk_drew ?_ | refine blk_alloc ?_ _)); exact BK32001.out) Try.underlying36 rfl (by kernel_rfl)) rfl ?_
    exact ⟨by first | rfl | (simp [errW_none, errW_some] <;> rfl) | (simp [*, errW_none, errW_some] <;> rfl), by repeat (first | (with_reducible first | exact HB.out | apply below_alloc | apply pw_below_drewN | apply below_drew1 | refine below_set ?_ GE32001.out) | exact HB.out)⟩

end Go.Proofs.Ytfgeickfheogoaa.Q

/- Areas and bounds of regions, as the program and the reference have them. -/
namespace Go.Proofs.Ytfgeickfheogoaa.Pure
open Go.RowKit Go.Proofs.Ytfgeickfheogoaa.Q Go.Proofs.YtfgeickfheogoaaW.PrintWords Go.Proofs.YtfgeickfheogoaaW.PrintLast Go.Proofs.YtfgeickfheogoaaW.PrintMore
set_option linter.unusedVariables false
set_option linter.unusedSimpArgs false

theorem validFrom_ok (l : List Run) : ∀ p, validFrom p l = true → ∀ r ∈ l, runOK r = true := by
  induction l with
  | nil => intro p _ r hr; cases hr
  | cons x xs ih =>
    intro p h r hr
    have h2 : runOK x = true ∧ validFrom (some x) xs = true := by
      cases p with
      | none => simpa [validFrom] using h
      | some p => simp [validFrom] at h; exact ⟨h.1.1, h.2⟩
    rcases List.mem_cons.1 hr with rfl | hr
    · exact h2.1
    · exact ih _ h2.2 r hr
theorem valid_ok {l : List Run} (h : validR l = true) : ∀ r ∈ l, runOK r = true := validFrom_ok l none h
def areaR (l : List Run) : Int := (l.map fun r => r.f2 - r.f1).sum
theorem area_range (l : List Run) (h : ∀ r ∈ l, runOK r = true) : 0 ≤ areaR l ∧ areaR l ≤ 16 * (l.length : Int) := by
  induction l with
  | nil => simp [areaR]
  | cons x xs ih =>
    have h1 := ih (fun r hr => h r (by simp [hr]))
    have h2 := (runOK_iff x).1 (h x (by simp))
    have e : areaR (x :: xs) = (x.f2 - x.f1) + areaR xs := by simp [areaR]
    rw [e, List.length_cons]
    omega
theorem areaR_drop (l : List Run) (i : Nat) (h : i < l.length) : areaR (l.drop i) = (l[i].f2 - l[i].f1) + areaR (l.drop (i + 1)) := by
  rw [List.drop_eq_getElem_cons h]; unfold areaR; rw [List.map_cons, List.sum_cons]
theorem spec_AreaOf_eq (l : List Run) (hl : l.length ≤ 1000000000) (k : Nat) (hk : 2 * l.length + 1 < k) : spec_AreaOf.f k l = some (if validR l = true then areaR l else -1) := by
  unfold spec_AreaOf.f
  rw [spec_validRuns_eq l (by omega) k (by omega)]
  simp only [Option.bind_some]
  by_cases hv : validR l = true
  · rw [if_pos hv, if_pos hv]
    have hok := valid_ok hv
    have h := loop_up 0 l.length (fun k i s => spec_AreaOf.l0 k l s (i : Int)) (fun i s => 0 ≤ s ∧ s ≤ 16 * (i : Int)) (fun i s => s + areaR (l.drop i))
      (by
        intro i s k hi hs _
        have ho := (runOK_iff _).1 (hok l[i] (List.getElem_mem hi))
        refine .inr ⟨s + l[i].f2 - l[i].f1, ?_, by constructor <;> omega, by rw [areaR_drop l i hi]; omega⟩
        simp only [spec_AreaOf.l0]
        rw [if_pos (by omega), if_pos (by omega), rdRun l i hi, w64n i (by omega), w64 (x := s + l[i].f2) (by omega) (by omega), w64 (by omega) (by omega)])
      (by
        intro s k hs _
        simp only [spec_AreaOf.l0]
        rw [if_neg (by omega), List.drop_length]; simp [areaR])
      l.length 0 0 k (by omega) (by omega) (by omega)
    simpa using h
  · rw [if_neg hv, if_neg hv]
theorem impl_AreaOf_eq (l : List Run) (hl : l.length ≤ 1000000000) (k : Nat) (hk : 2 * l.length + 1 < k) : impl_AreaOf.f k l = some (if validR l = true then areaR l else -1) := by
  unfold impl_AreaOf.f
  rw [impl_isRegion_eq l (by omega) k (by omega)]
  simp only [Option.bind_some]
  by_cases hv : validR l = true
  · rw [if_pos hv, if_pos hv]
    have hok := valid_ok hv
    have h := loop_up 0 l.length (fun k i s => impl_AreaOf.l0 k s l (l.length : Int) (i : Int)) (fun i s => 0 ≤ s ∧ s ≤ 16 * (i : Int)) (fun i s => s + areaR (l.drop i))
      (by
        intro i s k hi hs _
        have ho := (runOK_iff _).1 (hok l[i] (List.getElem_mem hi))
        refine .inr ⟨s + (l[i].f2 - l[i].f1), ?_, by constructor <;> omega, by rw [areaR_drop l i hi]; omega⟩
        simp only [impl_AreaOf.l0]
        rw [if_pos (by omega), if_pos (by omega), if_pos (by omega), rdRun l i hi, w64n i (by omega), w64 (x := l[i].f2 - l[i].f1) (by omega) (by omega), w64 (by omega) (by omega)])
      (by
        intro s k hs _
        simp only [impl_AreaOf.l0]
        rw [if_neg (by omega), List.drop_length]; simp [areaR])
      l.length 0 0 k (by omega) (by omega) (by omega)
    simpa using h
  · rw [if_neg hv, if_neg hv]
def leftR (l : List Run) (s : Int) : Int := l.foldl (fun a r => min a r.f1) s
def rightR (l : List Run) (s : Int) : Int := l.foldl (fun a r => max a r.f2) s
theorem left_range (l : List Run) (h : ∀ r ∈ l, runOK r = true) : ∀ s, 0 ≤ s → s ≤ 16 → 0 ≤ leftR l s ∧ leftR l s ≤ 16 := by
  induction l with
  | nil => intro s h0 h1; exact ⟨h0, h1⟩
  | cons x xs ih =>
    intro s h0 h1
    have h2 := (runOK_iff x).1 (h x (by simp))
    exact ih (fun r hr => h r (by simp [hr])) (min s x.f1) (by omega) (by omega)
theorem right_range (l : List Run) (h : ∀ r ∈ l, runOK r = true) : ∀ s, 0 ≤ s → s ≤ 16 → 0 ≤ rightR l s ∧ rightR l s ≤ 16 := by
  induction l with
  | nil => intro s h0 h1; exact ⟨h0, h1⟩
  | cons x xs ih =>
    intro s h0 h1
    have h2 := (runOK_iff x).1 (h x (by simp))
    exact ih (fun r hr => h r (by simp [hr])) (max s x.f2) (by omega) (by omega)
/-- The bounds of runs, at least one. -/
def boundsR (l : List Run) : Int × Int × Int × Int :=
  (leftR l 16, (l.headD z57).f0, rightR l 0 - leftR l 16, (l.getLastD z57).f0 - (l.headD z57).f0 + 1)
theorem last_wrap (l : List Run) (hn : l ≠ []) (hl : l.length ≤ 1000000000) (h : ∀ r ∈ l, runOK r = true) :
    (if 0 < (l.length : Int) then (if 0 ≤ (wrap64 ((l.length : Int) - 1)) then (if (wrap64 ((l.length : Int) - 1)) < (l.length : Int) then (some (leftR l 16, (rd_T57 l 0).f0, wrap64 (rightR l 0 - leftR l 16), wrap64 ((wrap64 (((rd_T57 l (wrap64 ((l.length : Int) - 1))).f0) - ((rd_T57 l 0).f0))) + 1))) else (none)) else (none)) else (none)) = some (boundsR l) := by
  have hp : 0 < l.length := List.length_pos_iff.2 hn
  have h1 := left_range l h 16 (by omega) (by omega)
  have h2 := right_range l h 0 (by omega) (by omega)
  have e0 : rd_T57 l 0 = l[0] := by simpa using rdRun l 0 hp
  have e1 : wrap64 ((l.length : Int) - 1) = ((l.length - 1 : Nat) : Int) := by rw [w64 (by omega) (by omega)]; omega
  have ha := (runOK_iff _).1 (h l[0] (List.getElem_mem hp))
  have hb := (runOK_iff _).1 (h (l[l.length - 1]'(by omega)) (List.getElem_mem (by omega)))
  rw [if_pos (by omega), e1, if_pos (by omega), if_pos (by omega), rdRun l (l.length - 1) (by omega), e0, w64 (x := rightR l 0 - leftR l 16) (by omega) (by omega), w64 (x := (l[l.length - 1]'(by omega)).f0 - l[0].f0) (by omega) (by omega), w64 (by omega) (by omega)]
  unfold boundsR
  have f1 : l.headD z57 = l[0] := by cases l with
    | nil => exact absurd rfl hn
    | cons x xs => rfl
  have f2 : l.getLastD z57 = l[l.length - 1]'(by omega) := by
    rw [← List.getLast_eq_getElem hn, List.getLastD_eq_getLast?, List.getLast?_eq_some_getLast hn]; rfl
  rw [f1, f2]
theorem foldl_drop {α β : Type} (f : β → α → β) (l : List α) (i : Nat) (h : i < l.length) (s : β) : (l.drop i).foldl f s = (l.drop (i + 1)).foldl f (f s l[i]) := by
  rw [List.drop_eq_getElem_cons h]; rfl
theorem impl_bounds_eq (l : List Run) (hn : l ≠ []) (hl : l.length ≤ 1000000000) (h : ∀ r ∈ l, runOK r = true) (k : Nat) (hk : l.length < k) : impl_bounds.f k l = some (boundsR l) := by
  unfold impl_bounds.f
  have hh := loop_up 0 l.length (fun k i (s : Int × Int) => impl_bounds.l0 k l s.1 s.2 l (l.length : Int) (i : Int)) (fun i s => leftR (l.drop i) s.1 = leftR l 16 ∧ rightR (l.drop i) s.2 = rightR l 0) (fun _ _ => boundsR l)
    (by
      intro i s k hi hs _
      refine .inr ⟨(mn s.1 l[i].f1, mx s.2 l[i].f2), ?_, ?_, rfl⟩
      · simp only [impl_bounds.l0]
        rw [if_pos (by omega), if_pos (by omega), if_pos (by omega), rdRun l i hi, w64n i (by omega)]
      · obtain ⟨q1, q2⟩ := hs
        unfold leftR at q1 ⊢
        unfold rightR at q2 ⊢
        rw [foldl_drop _ l i hi] at q1 q2
        rw [mn_def, mx_def]
        exact ⟨q1, q2⟩)
    (by
      intro s k hs _
      rw [List.drop_length] at hs
      simp only [impl_bounds.l0]
      rw [if_neg (by omega)]
      have q1 : s.1 = leftR l 16 := hs.1
      have q2 : s.2 = rightR l 0 := hs.2
      rw [q1, q2]
      exact last_wrap l hn hl h)
    l.length 0 (16, 0) k (by omega) ⟨rfl, rfl⟩ (by omega)
  exact hh
theorem foldl_min (l : List Run) : ∀ s t, leftR l (min s t) = min t (leftR l s) := by
  induction l with
  | nil => intro s t; show min s t = min t s; omega
  | cons x xs ih =>
    intro s t
    show leftR xs (min (min s t) x.f1) = min t (leftR xs (min s x.f1))
    rw [← ih]; congr 1; omega
theorem foldl_max (l : List Run) : ∀ s t, rightR l (max s t) = max t (rightR l s) := by
  induction l with
  | nil => intro s t; show max s t = max t s; omega
  | cons x xs ih =>
    intro s t
    show rightR xs (max (max s t) x.f2) = max t (rightR xs (max s x.f2))
    rw [← ih]; congr 1; omega
theorem spec_boundsOf_eq (l : List Run) (hn : l ≠ []) (hl : l.length ≤ 1000000000) (h : ∀ r ∈ l, runOK r = true) (k : Nat) (hk : l.length < k) : spec_boundsOf.f k l = some (boundsR l) := by
  have hp : 0 < l.length := List.length_pos_iff.2 hn
  have e0 : rd_T57 l 0 = l[0] := by simpa using rdRun l 0 hp
  have ha := (runOK_iff _).1 (h l[0] (List.getElem_mem hp))
  unfold spec_boundsOf.f
  rw [if_pos (by omega), e0]
  have s1 : leftR l l[0].f1 = leftR l 16 := by
    cases l with
    | nil => exact absurd rfl hn
    | cons x xs =>
      simp only [List.getElem_cons_zero] at ha ⊢
      show leftR xs (min x.f1 x.f1) = leftR xs (min 16 x.f1)
      congr 1; omega
  have s2 : rightR l l[0].f2 = rightR l 0 := by
    cases l with
    | nil => exact absurd rfl hn
    | cons x xs =>
      simp only [List.getElem_cons_zero] at ha ⊢
      show rightR xs (max x.f2 x.f2) = rightR xs (max 0 x.f2)
      congr 1; omega
  have hh := loop_up 0 l.length (fun k i (s : Int × Int) => spec_boundsOf.l0 k l s.1 s.2 (i : Int)) (fun i s => leftR (l.drop i) s.1 = leftR l 16 ∧ rightR (l.drop i) s.2 = rightR l 0) (fun _ _ => boundsR l)
    (by
      intro i s k hi hs _
      refine .inr ⟨(mn s.1 l[i].f1, mx s.2 l[i].f2), ?_, ?_, rfl⟩
      · simp only [spec_boundsOf.l0]
        rw [if_pos (by omega), if_pos (by omega), rdRun l i hi, w64n i (by omega)]
      · obtain ⟨q1, q2⟩ := hs
        unfold leftR at q1 ⊢
        unfold rightR at q2 ⊢
        rw [foldl_drop _ l i hi] at q1 q2
        rw [mn_def, mx_def]
        exact ⟨q1, q2⟩)
    (by
      intro s k hs _
      rw [List.drop_length] at hs
      simp only [spec_boundsOf.l0]
      rw [if_neg (by omega)]
      have q1 : s.1 = leftR l 16 := hs.1
      have q2 : s.2 = rightR l 0 := hs.2
      rw [q1, q2]
      exact last_wrap l hn hl h)
    l.length 0 (l[0].f1, l[0].f2) k (by omega) ⟨s1, s2⟩ (by omega)
  exact hh
/-- BoundsOf, for all runs. -/
def boundsOfR (l : List Run) : Int × Int × Int × Int × Bool :=
  if validR l = true ∧ l ≠ [] then ((boundsR l).1, (boundsR l).2.1, (boundsR l).2.2.1, (boundsR l).2.2.2, true) else (0, 0, 0, 0, false)
theorem impl_BoundsOf_eq (l : List Run) (hl : l.length ≤ 1000000000) (k : Nat) (hk : 2 * l.length + 1 < k) : impl_BoundsOf.f k l = some (boundsOfR l) := by
  unfold impl_BoundsOf.f boundsOfR
  rw [impl_isRegion_eq l (by omega) k (by omega)]
  simp only [Option.bind_some]
  by_cases hv : validR l = true
  · rw [if_pos hv]
    by_cases hn : l = []
    · subst hn; simp
    · have hp : 0 < l.length := List.length_pos_iff.2 hn
      rw [if_neg (by omega), if_pos ⟨hv, hn⟩, impl_bounds_eq l hn hl (valid_ok hv) k (by omega)]; rfl
  · rw [if_neg hv, if_neg (fun h => hv h.1)]
theorem spec_BoundsOf_eq (l : List Run) (hl : l.length ≤ 1000000000) (k : Nat) (hk : 2 * l.length + 1 < k) : spec_BoundsOf.f k l = some (boundsOfR l) := by
  unfold spec_BoundsOf.f boundsOfR
  rw [spec_validRuns_eq l (by omega) k (by omega)]
  simp only [Option.bind_some]
  by_cases hv : validR l = true
  · rw [if_pos hv]
    by_cases hn : l = []
    · subst hn; simp
    · have hp : 0 < l.length := List.length_pos_iff.2 hn
      rw [if_neg (by omega), if_pos ⟨hv, hn⟩, spec_boundsOf_eq l hn hl (valid_ok hv) k (by omega)]; rfl
  · rw [if_neg hv, if_neg (fun h => hv h.1)]
end Go.Proofs.Ytfgeickfheogoaa.Pure

/- The program's AreaOf and the reference's return the same number, and leave their runs alone: over lists of numbers alone. -/
namespace Go.Proofs.Ytfgeickfheogoaa.Pure
open Go.RowKit Go.Proofs.Ytfgeickfheogoaa.Q Go.Proofs.YtfgeickfheogoaaW.PrintWords Go.Proofs.YtfgeickfheogoaaW.PrintLast Go.Proofs.YtfgeickfheogoaaW.PrintMore
set_option linter.unusedVariables false
set_option linter.unusedSimpArgs false

theorem FnExactAreaOf : laws_FnExactAreaOf.Pure := by
  intro l _ hl
  refine ⟨3 * l.length + 3, ?_⟩
  unfold laws_FnExactAreaOf.f
  rcases szRunS_eq l 1048576 (by omega) (by omega) hl with ⟨hn, h0, h⟩ | h
  · rw [h]
    simp only [Option.bind_some]
    rw [if_neg (by omega), toRunS_eq l (by omega) _ (by omega)]
    simp only [Option.bind_some]
    rw [spec_AreaOf_eq _ (by simp; omega) _ (by simp; omega), impl_AreaOf_eq _ (by simp; omega) _ (by simp; omega)]
    simp only [Option.bind_some, if_true]
    rw [eqRunS_refl _ (by simp; omega) _ (by simp; omega)]
    rfl
  · rw [h]; simp
end Go.Proofs.Ytfgeickfheogoaa.Pure

/- The head of the translation reads as a plain cut. -/
namespace Go.Proofs.Ytfgeickfheogoaa.Head
set_option maxRecDepth 100000
theorem wordsSigns_word (w r : List Char) (h : w.all (fun c => !(c == Char.ofNat 32)) = true) : wordsSigns (w ++ Char.ofNat 32 :: r) = w :: wordsSigns r := by
  induction w with
  | nil => rfl
  | cons c w ih =>
    simp only [List.all_cons, Bool.and_eq_true, Bool.not_eq_true', beq_eq_false_iff_ne, ne_eq] at h
    have h1 := ih (by simpa using h.2)
    rw [List.cons_append, wordsSigns.eq_3 c _ h.1, h1]
def w1 : List Char := [104, 97, 114, 110, 101, 115, 115].map Char.ofNat
def w2 : List Char := [50, 56, 98, 98, 49, 50, 55, 52, 52, 51, 57, 52, 49, 48, 50, 99, 49, 101, 51, 56, 48, 55, 99, 55, 56, 54, 102, 55, 101, 99, 97, 50, 50, 51, 102, 48, 102, 55, 97, 102, 49, 102, 53, 49, 52, 56, 48, 100, 55, 53, 101, 102, 97, 100, 57, 50, 50, 50, 53, 55, 53, 102, 97, 55].map Char.ofNat
def w3 : List Char := [99, 117, 116].map Char.ofNat
def w4 : List Char := [97, 116, 32, 108, 111, 111, 112, 46, 101, 120, 97, 109, 112, 108, 101, 47, 112, 105, 120, 101, 108, 119, 111, 114, 107, 115, 47, 108, 97, 119, 115, 46, 70, 110, 69, 120, 97, 99, 116, 86, 97, 108, 105, 100, 82, 101, 103, 105, 111, 110, 32, 108, 111, 111, 112, 46, 101, 120, 97, 109, 112, 108, 101, 47, 112, 105, 120, 101, 108, 119, 111, 114, 107, 115, 47, 108, 97, 119, 115, 46, 70, 110, 69, 120, 97, 99, 116, 65, 114, 101, 97, 79, 102, 32, 108, 111, 111, 112, 46, 101, 120, 97, 109, 112, 108, 101, 47, 112, 105, 120, 101, 108, 119, 111, 114, 107, 115, 47, 108, 97, 119, 115, 46, 70, 110, 69, 120, 97, 99, 116, 82, 101, 103, 105, 111, 110, 72, 97, 115, 32, 108, 111, 111, 112, 46, 101, 120, 97, 109, 112, 108, 101, 47, 112, 105, 120, 101, 108, 119, 111, 114, 107, 115, 47, 108, 97, 119, 115, 46, 70, 110, 69, 120, 97, 99, 116, 66, 111, 120, 82, 101, 103, 105, 111, 110, 32, 108, 111, 111, 112, 46, 101, 120, 97, 109, 112, 108, 101, 47, 112, 105, 120, 101, 108, 119, 111, 114, 107, 115, 47, 108, 97, 119, 115, 46, 70, 110, 69, 120, 97, 99, 116, 66, 111, 117, 110, 100, 115, 79, 102, 32, 108, 111, 111, 112, 46, 101, 120, 97, 109, 112, 108, 101, 47, 112, 105, 120, 101, 108, 119, 111, 114, 107, 115, 47, 108, 97, 119, 115, 46, 70, 110, 66, 111, 120, 82, 101, 103, 105, 111, 110, 32, 108, 111, 111, 112, 46, 101, 120, 97, 109, 112, 108, 101, 47, 112, 105, 120, 101, 108, 119, 111, 114, 107, 115, 47, 108, 97, 119, 115, 46, 70, 110, 69, 100, 103, 101, 79, 102, 66, 111, 120, 32, 108, 111, 111, 112, 46, 101, 120, 97, 109, 112, 108, 101, 47, 112, 105, 120, 101, 108, 119, 111, 114, 107, 115, 47, 108, 97, 119, 115, 46, 70, 110, 69, 120, 97, 99, 116, 83, 104, 105, 102, 116, 82, 101, 103, 105, 111, 110, 32, 108, 111, 111, 112, 46, 101, 120, 97, 109, 112, 108, 101, 47, 112, 105, 120, 101, 108, 119, 111, 114, 107, 115, 47, 108, 97, 119, 115, 46, 70, 110, 69, 120, 97, 99, 116, 69, 100, 103, 101, 79, 102, 32, 108, 111, 111, 112, 46, 101, 120, 97, 109, 112, 108, 101, 47, 112, 105, 120, 101, 108, 119, 111, 114, 107, 115, 47, 108, 97, 119, 115, 46, 70, 110, 69, 120, 97, 99, 116, 67, 111, 109, 98, 105, 110, 101, 82, 101, 103, 105, 111, 110, 115, 32, 108, 111, 111, 112, 46, 101, 120, 97, 109, 112, 108, 101, 47, 112, 105, 120, 101, 108, 119, 111, 114, 107, 115, 47, 108, 97, 119, 115, 46, 70, 110, 69, 120, 97, 99, 116, 71, 114, 111, 119, 82, 101, 103, 105, 111, 110, 32, 108, 111, 111, 112, 46, 101, 120, 97, 109, 112, 108, 101, 47, 112, 105, 120, 101, 108, 119, 111, 114, 107, 115, 47, 108, 97, 119, 115, 46, 70, 110, 69, 120, 97, 99, 116, 83, 104, 114, 105, 110, 107, 82, 101, 103, 105, 111, 110, 32, 108, 111, 111, 112, 46, 101, 120, 97, 109, 112, 108, 101, 47, 112, 105, 120, 101, 108, 119, 111, 114, 107, 115, 47, 108, 97, 119, 115, 46, 70, 110, 69, 120, 97, 99, 116, 79, 112, 101, 110, 82, 101, 103, 105, 111, 110, 32, 108, 111, 111, 112, 46, 101, 120, 97, 109, 112, 108, 101, 47, 112, 105, 120, 101, 108, 119, 111, 114, 107, 115, 47, 108, 97, 119, 115, 46, 70, 110, 69, 120, 97, 99, 116, 80, 97, 114, 116, 115, 79, 102].map Char.ofNat
theorem signs0 : Try.prog.initOrder = String.ofList (w1 ++ Char.ofNat 32 :: (w2 ++ Char.ofNat 32 :: (w3 ++ Char.ofNat 32 :: w4))) := by kernel_rfl
theorem behind : behindMainWord (wordsSigns Try.prog.initOrder.toList) = w3 :: wordsSigns w4 := by
  rw [signs0, String.toList_ofList, wordsSigns_word w1 _ (by kernel_rfl), wordsSigns_word w2 _ (by kernel_rfl), wordsSigns_word w3 _ (by kernel_rfl)]
  unfold behindMainWord
  dsimp only
  rw [if_pos (by kernel_rfl)]
theorem strip_cut (R : List (List Char)) : stripLifts liftWords (w3 :: R) = ([], w3 :: R) := by kernel_rfl
theorem mayEnter_of (P : Program) (R : List (List Char)) (h : behindMainWord (wordsSigns P.initOrder.toList) = w3 :: R) (h1 : P.laysLater = false) (h2 : P.bearsReflect = false) (h3 : P.doorFits [] = true) : P.mayEnter = true := by
  unfold Program.mayEnter
  rw [h]
  dsimp only
  rw [strip_cut, h1, h2, h3]
  kernel_rfl
theorem liftsFinal_of (P : Program) (R : List (List Char)) (h : behindMainWord (wordsSigns P.initOrder.toList) = w3 :: R) : P.liftsFinal = false := by
  unfold Program.liftsFinal Program.headLifts
  rw [h]
  dsimp only
  rw [strip_cut]
  kernel_rfl
theorem make_of (P : Program) (R : List (List Char)) (h : behindMainWord (wordsSigns P.initOrder.toList) = w3 :: R) : P.make = some .cut := by
  unfold Program.make
  rw [h]
  kernel_rfl
theorem mayEnter : Try.prog.mayEnter = true := mayEnter_of _ _ behind (by kernel_rfl) (by kernel_rfl) (by kernel_rfl)
theorem liftsFinal : Try.prog.liftsFinal = false := liftsFinal_of _ _ behind
theorem make : Try.prog.make = some .cut := make_of _ _ behind
end Go.Proofs.Ytfgeickfheogoaa.Head

-- the row of the law FnExactAreaOf
namespace Go.Proofs.Ytfgeickfheogoaa.fnExactAreaOf
open Go.ChangeShapes Go.WideShapes Go.ChangeAt Go.RowKit Go.Proofs.Ytfgeickfheogoaa.Q Go.Proofs.YtfgeickfheogoaaW.PrintWords
open Go.ChangeMaps (open_string shut_string)
set_option linter.unusedVariables false
theorem own : ownKnob Try.prog.godebug = none := by kernel_rfl
theorem laidOut : laidOutB Try.prog = true := by kernel_rfl
set_option maxRecDepth 100000 in
theorem lifted (os : Os) (started : os.Started) (H : Type) (enc : TypeId × Value → H) :
    ReturnsInHanded {} Try.checked os 4 .any (Rows.fnExactAreaOfSpec.pre6 enc Try.prog Try.f4 Rows.fnExactAreaOfRow.domain false) (Rows.fnExactAreaOfSpec.post enc Try.prog Try.f4 false true false false) := by
  refine returnsInHanded_of_change_sized (C := Try.checked) own started (by kernel_rfl) Try.func4
    (ChangeSpec.witness6 (enc := enc) (C := Try.checked) false ⟨#[], #[.slice none 0 0], []⟩ 8 (by kernel_rfl) (by kernel_rfl) (by kernel_rfl) (by kernel_rfl)) ?_
  intro W base args ds gs before hval0 hW hcnd hsz0 _
  have hval : ∀ (j : Nat) t v, Try.f4.params[j]? = some t → args[j]? = some v → Value.okWide Try.prog W .any base t v := hval0
  have hW' := hW
  obtain ⟨p, q, hA0, hV, rfl, hfz, hnd⟩ := hW
  have hA : DataW.TrodAll enc Try.prog W 0 (fun _ => true) true Try.f4.params.toList args.toList ds p := hA0
  rw [Try.params4] at hA hval
  obtain ⟨v0, vs0, d0, ds0, p0, q0, hargs, rfl, rfl, h0, r0⟩ := trodAll_cons hA
  obtain ⟨rfl, rfl, rfl⟩ := trodAll_nil r0
  obtain rfl : args = #[v0] := by cases args; simp_all
  obtain ⟨rfl, rfl⟩ := trodVars_none hV
  have k0 := h0
  have lt0 : ∀ x ∈ p0, x.block < W.heap.size := by obtain ⟨m, hm⟩ := k0; exact DataW.trod_lt m _ _ _ hm
  obtain ⟨fuel0, hf0⟩ := h0
  obtain ⟨aa0, len0, cap0, rfl⟩ := okWide_slice Try.underlying22 (hval 0 22 v0 rfl rfl)
  obtain ⟨l0, ⟨A0, c0, hcs0, hc0, hr0⟩, hq0⟩ := (opens_slice Try.underlying22 (by kernel_rfl) o59) _ _ _ _ _ _ hf0
  have hcs0' : [Value.slice aa0 len0 cap0] = [.slice A0 l0.length c0] := hcs0
  injection hcs0' with hcs0' _
  injection hcs0' with e10 e20 e30
  subst e10 e20 e30
  clear hA0 hval0 hsz0
  obtain ⟨k, hh⟩ := Pure.FnExactAreaOf l0 hq0 hr0.2.1
  refine (Q.laws_FnExactAreaOf.calls k _ _ l0 true W hr0 hc0 hh).mono fun e W' hpost => ?_
  obtain ⟨he, bel0⟩ := hpost
  have bel : Below W.heap.size W W' := bel0
  subst he
  exact ⟨_, rfl, _, _, _, [], _, [], hW', trodAll_mk1 (shut_bool Try.underlying4 _), (trodAll_cons_mk (Below.trod laidOut (by kernel_rfl) (of_decide_eq_true (by kernel_rfl)) k0 bel lt0) trodAll_mk0), rfl, bel.frame _, fun h => by cases h⟩
theorem closed : joinedFacts Try.prog 4 Try.f4 Rows.fnExactAreaOfSpec Rows.fnExactAreaOfRow = true := by
  unfold joinedFacts
  rw [Head.mayEnter, Head.liftsFinal, Head.make]
  simp only [Bool.and_eq_true]
  repeat' apply And.intro
  all_goals first | exact True.intro | (as_aux_lemma => kernel_rfl)
theorem over : Rows.fnExactAreaOfRow.holds Try.pinned (OpenSpec.ofChange Rows.fnExactAreaOfSpec) :=
  OpenClaim.holds_of_wide 4 Try.f4 rfl rfl rfl rfl rfl rfl rfl ⟨rfl, rfl, rfl, rfl, rfl⟩ rfl rfl rfl rfl rfl (by kernel_rfl) Try.func4 closed
    (of_decide_eq_true (by kernel_rfl)) (by unfold Func.isWrapper; first | (rw [if_pos (by decide +kernel)]; kernel_rfl) | (rw [if_neg (by decide +kernel)]; exact ⟨rfl, rfl⟩))
    (fun os started H enc _ => lifted os started H enc)
theorem proved : Rows.FnExactAreaOfSaid := over
#print axioms proved
end Go.Proofs.Ytfgeickfheogoaa.fnExactAreaOf
namespace Go.Proofs.Ytfgeickfheogoaa
/-- The row, under a short name, for the claim. -/
theorem fnExactAreaOf_holds : Rows.FnExactAreaOfSaid := fnExactAreaOf.proved
end Go.Proofs.Ytfgeickfheogoaa
