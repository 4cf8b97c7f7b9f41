/- A part of the proof that the statement FnExactSimplifyStepsSaid holds, under no condition of its own: The program's SimplifySteps and the reference's return the same, and what is returned is held by nobody else: over lists of numbers alone. -/
import Derived.Test.YtgfjccegehnjcaaCFnExactSimplifySteps2
import Derived.Test.YtgfjccegehnjcaaCFnExactSimplifySteps1
import Derived.Test.YtgfjccegehnjcaaRows
import Derived.JoinedOf
import Derived.KernelRfl
import Derived.WalkKit
import Derived.ProofKit
import Derived.OpenShut
import Derived.ShutString
import Derived.ChangeOld
import Derived.Below
import Derived.SizedLaws
import Derived.Carry
/- The reference takes away what cancels first, as the program does. -/
namespace Go.Proofs.Ytgfjccegehnjcaa.Pure
open Go.RowKit Go.Proofs.Ytgfjccegehnjcaa.Q Go.Proofs.YtgfjccegehnjcaaW.PrintWords Go.Proofs.YtgfjccegehnjcaaW.PrintLast Go.Proofs.YtgfjccegehnjcaaW.PrintMore
set_option linter.unusedVariables false
set_option linter.unusedSimpArgs false

abbrev StepZ := S59
def stepAt : Nat → List StepZ → Nat → Option (List StepZ)
  | 0, _, _ => none
  | n + 1, l, i => if cancelN (l.drop i) = 0 then stepAt n l (i + 1) else some (l.take i ++ l.drop (i + cancelN (l.drop i)))
def ansOf (l : List StepZ) : Option (List StepZ) → List StepZ × Bool
  | none => (l, false)
  | some m => (m, true)
def specSimp : Nat → List StepZ → List StepZ
  | 0, l => l
  | n + 1, l => match stepAt l.length l 0 with
    | none => l
    | some m => specSimp n m
theorem rdZ_nat (l : List StepZ) (i : Nat) (h : i < l.length) : rd_T59 l (i : Int) = l[i] := by simp [rd_T59, h]
theorem many_two (k : Int) : manyOf k = 0 ∨ 2 ≤ manyOf k := by
  unfold manyOf
  (repeat' split) <;> simp
theorem canc_val (l : List StepZ) (M : Nat) (hM : manyOf (rd_T59 l 0).f0 = M) : cancelN l = if M = 0 then 0 else if l.length < M then 0 else if (l.take M).any (otherKind l) = true then 0 else M := by
  subst hM
  rfl
theorem no_other (l : List StepZ) (M : Nat) (h : ∀ u ∈ l.take M, u.f0 = (rd_T59 l 0).f0) : ¬ (l.take M).any (otherKind l) = true := fun z => by
  obtain ⟨u, hu, ho⟩ := List.any_eq_true.1 z
  unfold otherKind at ho
  exact bne_iff_ne.1 ho (h u hu)
theorem has_other (l : List StepZ) (M : Nat) {u : StepZ} (hu : u ∈ l.take M) (hn : u.f0 ≠ (rd_T59 l 0).f0) : (l.take M).any (otherKind l) = true :=
  List.any_eq_true.2 ⟨u, hu, by unfold otherKind; exact bne_iff_ne.2 hn⟩
theorem cancel_one (s : StepZ) : cancelN [s] = 0 := by
  unfold cancelN
  by_cases c : manyOf (rd_T59 [s] 0).f0 = 0
  · rw [if_pos c]
  · have h2 := many_two (rd_T59 [s] 0).f0
    rw [if_neg c, if_pos (by rw [List.length_singleton]; omega)]
def four (s t : StepZ) : List StepZ → Bool
  | u :: v :: _ => decide (s.f0 = 1 ∧ t.f0 = 1 ∧ u.f0 = 1 ∧ v.f0 = 1)
  | _ => false
theorem four_one {s t : StepZ} {r : List StepZ} (h : s.f0 ≠ 1) : four s t r = false := by
  unfold four
  split
  · exact decide_eq_false (fun z => h z.1)
  · rfl
theorem cancel_two (s t : StepZ) (r : List StepZ) : cancelN (s :: t :: r) = if s.f0 = t.f0 ∧ (s.f0 = 0 ∨ s.f0 = 2) then 2 else if four s t r = true then 4 else 0 := by
  have e : rd_T59 (s :: t :: r) 0 = s := rfl
  by_cases k0 : s.f0 = 0 ∨ s.f0 = 2
  · have hm : manyOf s.f0 = 2 := by rcases k0 with h | h <;> rw [h] <;> rfl
    have hf : four s t r = false := four_one (by omega)
    have hv := canc_val (s :: t :: r) 2 (by rw [e]; exact hm)
    rw [if_neg (show ¬ (2 : Nat) = 0 by decide), if_neg (show ¬ (s :: t :: r).length < 2 by simp)] at hv
    rw [hv, hf]
    by_cases c : s.f0 = t.f0
    · have hn := no_other (s :: t :: r) 2 (fun u hu => by
        have hu : u ∈ [s, t] := hu
        rw [e]
        rcases List.mem_cons.1 hu with h | h
        · rw [h]
        · rw [List.mem_singleton.1 h]; exact c.symm)
      rw [if_neg hn, if_pos ⟨c, k0⟩]
    · have hn := has_other (s :: t :: r) 2 (u := t) (show t ∈ [s, t] by simp) (by rw [e]; exact fun z => c z.symm)
      rw [if_pos hn, if_neg (fun z => c z.1), if_neg (by simp)]
  · by_cases k1 : s.f0 = 1
    · have hm : manyOf s.f0 = 4 := by rw [k1]; rfl
      have hv := canc_val (s :: t :: r) 4 (by rw [e]; exact hm)
      rw [if_neg (show ¬ (4 : Nat) = 0 by decide)] at hv
      match r with
      | [] =>
        rw [if_pos (show [s, t].length < 4 by simp)] at hv
        rw [hv, if_neg (fun z => k0 z.2)]
        rfl
      | [u] =>
        rw [if_pos (show [s, t, u].length < 4 by simp)] at hv
        rw [hv, if_neg (fun z => k0 z.2)]
        rfl
      | u :: v :: r' =>
        rw [if_neg (show ¬ (s :: t :: u :: v :: r').length < 4 by simp)] at hv
        rw [hv, if_neg (c := s.f0 = t.f0 ∧ (s.f0 = 0 ∨ s.f0 = 2)) (fun z => k0 z.2)]
        by_cases c : t.f0 = 1 ∧ u.f0 = 1 ∧ v.f0 = 1
        · have hn := no_other (s :: t :: u :: v :: r') 4 (fun x hx => by
            have hx : x ∈ [s, t, u, v] := hx
            rw [e, k1]
            simp only [List.mem_cons, List.not_mem_nil, or_false] at hx
            rcases hx with rfl | rfl | rfl | rfl
            · exact k1
            · exact c.1
            · exact c.2.1
            · exact c.2.2)
          rw [if_neg hn, if_pos (show four s t (u :: v :: r') = true from decide_eq_true ⟨k1, c⟩)]
        · have hn : ((s :: t :: u :: v :: r').take 4).any (otherKind (s :: t :: u :: v :: r')) = true := by
            by_cases c1 : t.f0 = 1
            · by_cases c2 : u.f0 = 1
              · exact has_other _ 4 (u := v) (show v ∈ [s, t, u, v] by simp) (by rw [e, k1]; exact fun z => c ⟨c1, c2, z⟩)
              · exact has_other _ 4 (u := u) (show u ∈ [s, t, u, v] by simp) (by rw [e, k1]; exact c2)
            · exact has_other _ 4 (u := t) (show t ∈ [s, t, u, v] by simp) (by rw [e, k1]; exact c1)
          rw [if_pos hn, if_neg (show ¬ four s t (u :: v :: r') = true from fun z => c (of_decide_eq_true z).2)]
    · have hm : manyOf s.f0 = 0 := by
        unfold manyOf
        rw [if_neg (fun z => k0 (.inl z)), if_neg (fun z => k0 (.inr z)), if_neg k1]
      have hv := canc_val (s :: t :: r) 0 (by rw [e]; exact hm)
      rw [if_pos rfl] at hv
      rw [hv, if_neg (fun z => k0 z.2), four_one k1]
      rfl
theorem sl_end (l : List StepZ) (i k : Nat) (hl : l.length ≤ 1000000) (h : l.length ≤ i + 1) (hi : i ≤ l.length) : spec_simpler.l0 (k + 1) l (i : Int) = some (l, false) := by
  simp only [spec_simpler.l0]
  rw [w64n i (by omega), if_neg (by omega)]
def sameZ (s t : StepZ) : Bool := decide (s.f0 = t.f0 ∧ (s.f0 = 0 ∨ s.f0 = 2))
theorem sl_go (l : List StepZ) (i k : Nat) (hl : l.length ≤ 1000000) (h : i + 1 < l.length) : spec_simpler.l0 (k + 1) l (i : Int) = spec_simpler.j1 k l (i : Int) (l[i].f0 == l[i + 1].f0) (sameZ l[i] l[i + 1]) := by
  simp only [spec_simpler.l0]
  rw [w64n i (by omega), if_pos (by omega), if_pos (by omega), if_pos (by omega), if_pos (by omega), rdZ_nat l i (by omega), rdZ_nat l (i + 1) h]
  generalize l[i] = s
  generalize l[i + 1] = t
  by_cases c : s.f0 = t.f0
  · rw [if_pos c]
    by_cases h0 : s.f0 = 0
    · rw [if_pos h0, show sameZ s t = true from decide_eq_true ⟨c, .inl h0⟩]
    · rw [if_neg h0]
      by_cases h2 : s.f0 = 2
      · rw [show sameZ s t = true from decide_eq_true ⟨c, .inr h2⟩, show (s.f0 == 2) = true from beq_iff_eq.2 h2]
      · rw [show sameZ s t = false from decide_eq_false (fun z => z.2.elim h0 h2), show (s.f0 == 2) = false from beq_eq_false_iff_ne.2 h2]
  · rw [if_neg c, show sameZ s t = false from decide_eq_false (fun z => c z.1)]
theorem sl_two (l : List StepZ) (i k : Nat) (b : Bool) (hl : l.length ≤ 1000000) (h : i + 1 < l.length) : spec_simpler.j1 (k + 1) l (i : Int) b true = some (l.take i ++ l.drop (i + 2), true) := by
  have e2 : wrap64 ((i : Int) + 2) = ((i + 2 : Nat) : Int) := by rw [w64 (by omega) (by omega)]; omega
  rw [spec_simpler.j1, if_pos rfl, Option.bind_some, if_pos (by omega), if_pos (by omega), Option.bind_some, if_pos (by rw [Int.toNat_natCast, List.length_nil, List.length_take]; omega), Option.bind_some, e2, if_pos (by omega), if_pos (by omega), Option.bind_some, if_pos (by rw [List.nil_append, Int.toNat_natCast, Int.toNat_natCast, List.length_take, List.length_drop]; omega), Int.toNat_natCast, Int.toNat_natCast, List.nil_append]
theorem sl_four (l : List StepZ) (i k : Nat) (hl : l.length ≤ 1000000) (h : i + 3 < l.length) (a1 : l[i].f0 = 1) (a3 : l[i + 2].f0 = 1) (a4 : l[i + 3].f0 = 1) : spec_simpler.j1 (k + 1) l (i : Int) true false = some (l.take i ++ l.drop (i + 4), true) := by
  have e2 : wrap64 ((i : Int) + 2) = ((i + 2 : Nat) : Int) := by rw [w64 (by omega) (by omega)]; omega
  have e3 : wrap64 ((i : Int) + 3) = ((i + 3 : Nat) : Int) := by rw [w64 (by omega) (by omega)]; omega
  have e4 : wrap64 ((i : Int) + 4) = ((i + 4 : Nat) : Int) := by rw [w64 (by omega) (by omega)]; omega
  rw [spec_simpler.j1, if_neg (by decide), e3, if_pos (by omega), if_pos (by omega), if_pos (by omega), rdZ_nat l i (by omega), if_pos a1, if_pos rfl, e2, if_pos (by omega), if_pos (by omega), rdZ_nat l (i + 2) (by omega), if_pos a3, if_pos (by omega), rdZ_nat l (i + 3) h, if_pos a4, Option.bind_some, if_pos (by omega), Option.bind_some, if_pos (by rw [Int.toNat_natCast, List.length_nil, List.length_take]; omega), Option.bind_some, e4, if_pos (by omega), if_pos (by omega), Option.bind_some, if_pos (by rw [List.nil_append, Int.toNat_natCast, Int.toNat_natCast, List.length_take, List.length_drop]; omega), Int.toNat_natCast, Int.toNat_natCast, List.nil_append]
theorem sl_next (l : List StepZ) (i k : Nat) (b : Bool) (hl : l.length ≤ 1000000) (h : i + 1 < l.length) (hn : ∀ h3 : i + 3 < l.length, ¬ (l[i].f0 = 1 ∧ b = true ∧ l[i + 2].f0 = 1 ∧ l[i + 3].f0 = 1)) : spec_simpler.j1 (k + 1) l (i : Int) b false = spec_simpler.l0 k l ((i + 1 : Nat) : Int) := by
  have e2 : wrap64 ((i : Int) + 2) = ((i + 2 : Nat) : Int) := by rw [w64 (by omega) (by omega)]; omega
  have e3 : wrap64 ((i : Int) + 3) = ((i + 3 : Nat) : Int) := by rw [w64 (by omega) (by omega)]; omega
  rw [spec_simpler.j1, if_neg (by decide), w64n i (by omega), e2, e3]
  by_cases h3 : i + 3 < l.length
  · have hn := hn h3
    rw [if_pos (by omega), if_pos (by omega), if_pos (by omega), rdZ_nat l i (by omega), rdZ_nat l (i + 2) (by omega), rdZ_nat l (i + 3) h3]
    by_cases a1 : l[i].f0 = 1
    · rw [if_pos a1]
      by_cases a2 : b = true
      · rw [if_pos a2, if_pos (by omega), if_pos (by omega)]
        by_cases a3 : l[i + 2].f0 = 1
        · rw [if_pos a3, if_pos (by omega), if_neg (fun a4 => hn ⟨a1, a2, a3, a4⟩)]
        · rw [if_neg a3]
      · rw [if_neg a2]
    · rw [if_neg a1]
  · rw [if_neg (by omega)]
theorem four_short {s t : StepZ} {r : List StepZ} (h : r.length ≤ 1) : four s t r = false := by
  match r, h with
  | [], _ => rfl
  | [_], _ => rfl
  | _ :: _ :: _, h => simp at h
theorem simpler_loop (l : List StepZ) (hl : l.length ≤ 1000000) (n : Nat) : ∀ (i : Nat), i + n = l.length → Ev (fun k => spec_simpler.l0 k l (i : Int)) (ansOf l (stepAt n l i)) := by
  induction n with
  | zero => exact fun i hi => Ev.step (f := fun _ => some (l, false)) (fun k => sl_end l i k hl (by omega) (by omega)) (Ev.now _)
  | succ n ih =>
    intro i hi
    have hlt : i < l.length := by omega
    by_cases h1 : i + 1 = l.length
    · have hn : n = 0 := by omega
      subst hn
      have hd : l.drop i = [l[i]] := by rw [List.drop_eq_getElem_cons hlt, List.drop_of_length_le (by omega)]
      have hs : stepAt (0 + 1) l i = none := by
        rw [stepAt, hd, cancel_one]
        rfl
      rw [hs]
      exact Ev.step (f := fun _ => some (l, false)) (fun k => sl_end l i k hl (by omega) (by omega)) (Ev.now _)
    · have hlt1 : i + 1 < l.length := by omega
      have hd : l.drop i = l[i] :: l[i + 1] :: l.drop (i + 2) := by rw [List.drop_eq_getElem_cons hlt, List.drop_eq_getElem_cons hlt1]
      have hc := cancel_two l[i] l[i + 1] (l.drop (i + 2))
      rw [← hd] at hc
      have ih := ih (i + 1) (by omega)
      refine Ev.step (f := fun k => spec_simpler.j1 k l (i : Int) (l[i].f0 == l[i + 1].f0) (sameZ l[i] l[i + 1])) (fun k => sl_go l i k hl hlt1) ?_
      by_cases hp : l[i].f0 = l[i + 1].f0 ∧ (l[i].f0 = 0 ∨ l[i].f0 = 2)
      · rw [if_pos hp] at hc
        have hs : stepAt (n + 1) l i = some (l.take i ++ l.drop (i + 2)) := by
          rw [stepAt, hc]
          rfl
        rw [hs, show sameZ l[i] l[i + 1] = true from decide_eq_true hp]
        exact Ev.step (f := fun _ => some (l.take i ++ l.drop (i + 2), true)) (fun k => sl_two l i k _ hl hlt1) (Ev.now _)
      · rw [if_neg hp] at hc
        rw [show sameZ l[i] l[i + 1] = false from decide_eq_false hp]
        by_cases hq : four l[i] l[i + 1] (l.drop (i + 2)) = true
        · rw [if_pos hq] at hc
          have hs : stepAt (n + 1) l i = some (l.take i ++ l.drop (i + 4)) := by
            rw [stepAt, hc]
            rfl
          rw [hs]
          by_cases h3 : i + 3 < l.length
          · have hd2 : l.drop (i + 2) = l[i + 2] :: l[i + 3] :: l.drop (i + 4) := by rw [List.drop_eq_getElem_cons (show i + 2 < l.length by omega), List.drop_eq_getElem_cons h3]
            rw [hd2] at hq
            obtain ⟨a1, a2, a3, a4⟩ := of_decide_eq_true hq
            rw [show (l[i].f0 == l[i + 1].f0) = true from beq_iff_eq.2 (a1.trans a2.symm)]
            exact Ev.step (f := fun _ => some (l.take i ++ l.drop (i + 4), true)) (fun k => sl_four l i k hl h3 a1 a3 a4) (Ev.now _)
          · rw [four_short (by rw [List.length_drop]; omega)] at hq
            cases hq
        · rw [if_neg hq] at hc
          have hs : stepAt (n + 1) l i = stepAt n l (i + 1) := by
            rw [stepAt, hc]
            rfl
          rw [hs]
          refine Ev.step (f := fun k => spec_simpler.l0 k l ((i + 1 : Nat) : Int)) (fun k => sl_next l i k _ hl hlt1 (fun h3 z => ?_)) ih
          have hd2 : l.drop (i + 2) = l[i + 2] :: l[i + 3] :: l.drop (i + 4) := by rw [List.drop_eq_getElem_cons (show i + 2 < l.length by omega), List.drop_eq_getElem_cons h3]
          rw [hd2] at hq
          obtain ⟨a1, a2, a3, a4⟩ := z
          exact hq (decide_eq_true ⟨a1, (beq_iff_eq.1 a2) ▸ a1, a3, a4⟩)
theorem simpler_some (l : List StepZ) (hl : l.length ≤ 1000000) : ∃ k, spec_simpler.f k l = some (ansOf l (stepAt l.length l 0)) := Ev.rounds (simpler_loop l hl l.length 0 (by omega))
theorem stepAt_len : ∀ (n : Nat) (l m : List StepZ) (i : Nat), stepAt n l i = some m → m.length < l.length ∧ ∀ s ∈ m, s ∈ l
  | 0, l, m, i, h => by cases h
  | n + 1, l, m, i, h => by
    rw [stepAt] at h
    by_cases c : cancelN (l.drop i) = 0
    · rw [if_pos c] at h
      exact stepAt_len n l m (i + 1) h
    · rw [if_neg c] at h
      obtain rfl := Option.some.inj h
      have hle := cancelN_le (l.drop i)
      rw [List.length_drop] at hle
      refine ⟨by rw [List.length_append, List.length_take, List.length_drop]; omega, fun s hs => ?_⟩
      rcases List.mem_append.1 hs with h | h
      · exact List.mem_of_mem_take h
      · exact List.mem_of_mem_drop h
theorem specSimp_sub : ∀ (n : Nat) (l : List StepZ), (specSimp n l).length ≤ l.length ∧ ∀ s ∈ specSimp n l, s ∈ l
  | 0, l => ⟨Nat.le_refl _, fun _ h => h⟩
  | n + 1, l => by
    rw [specSimp]
    cases h : stepAt l.length l 0 with
    | none => exact ⟨Nat.le_refl _, fun _ h => h⟩
    | some m =>
      have h1 := stepAt_len _ _ _ _ h
      have h2 := specSimp_sub n m
      exact ⟨by show (specSimp n m).length ≤ _; omega, fun s hs => h1.2 s (h2.2 s hs)⟩
theorem simpF_spec : ∀ (k : Nat) (l : List StepZ) (i n : Nat), l.length ≤ 12 → i ≤ l.length → l.length * 13 + (l.length - i) < k → l.length ≤ n → simpF k l i = match stepAt (l.length - i) l i with
    | none => l
    | some m => specSimp n m
  | 0, l, i, n, h12, hi, hm, hn => by omega
  | k + 1, l, i, n, h12, hi, hm, hn => by
    rw [simpF_succ]
    by_cases c : i < l.length
    · rw [if_pos c]
      obtain ⟨q, hq⟩ : ∃ q, l.length - i = q + 1 := ⟨l.length - i - 1, by omega⟩
      rw [hq, stepAt]
      by_cases c2 : cancelN (l.drop i) = 0
      · rw [if_pos c2, if_pos c2, simpF_spec k l (i + 1) n h12 (by omega) (by omega) hn, show l.length - (i + 1) = q by omega]
      · rw [if_neg c2, if_neg c2]
        have hle := cancelN_le (l.drop i)
        rw [List.length_drop] at hle
        have hml : (l.take i ++ l.drop (i + cancelN (l.drop i))).length < l.length := by rw [List.length_append, List.length_take, List.length_drop]; omega
        generalize l.take i ++ l.drop (i + cancelN (l.drop i)) = m at hml ⊢
        obtain ⟨n', rfl⟩ : ∃ n', n = n' + 1 := ⟨n - 1, by omega⟩
        rw [simpF_spec k m 0 n' (by omega) (by omega) (by omega) (by omega), Nat.sub_zero]
        show _ = specSimp (n' + 1) m
        rw [specSimp]
    · rw [if_neg c, show l.length - i = 0 by omega]
      rfl
theorem simpF_eq (l : List StepZ) (h : l.length ≤ 12) : simpF 200 l 0 = specSimp 13 l := by
  rw [simpF_spec 200 l 0 12 h (by omega) (by omega) h, Nat.sub_zero, specSimp]
end Go.Proofs.Ytgfjccegehnjcaa.Pure

/- spec.SimplifySteps: what cancels is taken out, place by place. -/
namespace Go.Proofs.Ytgfjccegehnjcaa.Q
open Go.RowKit Go.Proofs.YtgfjccegehnjcaaW.PrintWords Go.Proofs.YtgfjccegehnjcaaW.PrintLast Go.Proofs.YtgfjccegehnjcaaW.PrintMore
attribute [local go_sem] max2_int min2_int max_two min_two max_three min_three max_four min_four
set_option linter.unusedVariables false
set_option linter.unusedSimpArgs false
open Go.Proofs.Ytgfjccegehnjcaa.Pure

def spec_SimplifySteps.f (l0 : List S59) : Option (List S59) := if l0.all (fun s => decide (s.f2.length ≤ 2000000)) = true then some (if 12 < l0.length then [] else specSimp 13 l0) else none
theorem copy_some (l : List Int) (h : l.length ≤ 2000000) : spec_copyInts.f l = some l := by
  unfold spec_copyInts.f
  simp only [Option.bind_some, List.nil_append, List.length_nil]
  rw [if_pos (by omega)]
set_option maxHeartbeats 4000000 in
set_option maxRecDepth 100000 in
theorem specSimp_some (A0 : Option Addr) (c0 : Nat) (l : List S59) (w : World) (hr0 : Kd.C k59 w A0 l.length l) (h12 : l.length ≤ 12) (hpx : ∀ s ∈ l, s.f2.length ≤ 2000000) :
    Calls Try.prog 40 #[.slice A0 l.length c0] w fun e w' => ∃ v0_ : Value, e = .returned v0_ ∧ Kd.V k59 59 w' w.heap.size (fun k_ => w.heap.size ≤ k_) v0_ (specSimp 13 l) ∧ Below w.heap.size w w' := by
  have HR := Aside0.mk hr0
  have hu := Try.underlying53
  have hus := Try.underlying59
  have q12 : decide ((l.length : Int) > 12) = false := decide_eq_false (by omega)
  have q12b : decide (12 < l.length) = false := decide_eq_false (by omega)
  clear hr0
  go_enter Try.func40, Try.ntmps40
  go_wp2_with (first
    | ((with_reducible refine gate_dst (N := 10) rfl ?_); refine Kd.R_lit k59 (w0 := w) w.heap.size 59 ?hg (N := 10) ?hd (xs := ([] : List S59)) (inner := []) (ok := fun _ => True) (okp := fun _ => True) ?hr ?hp (fun _ hk => hk) trivial (Below.refl _ _) (Nat.le_refl _) (by simp) ?_; (case hd => rfl); (case hg => rfl); (case hr => first | (go_simp; done) | (go_simp; rfl)); (case hp => exact (Reps.none _ _)); intro v10 w1 ho hb hg_ hnew_; have O1 := Aside0.mk (And.intro ho hb); clear ho hb hg_ hnew_))
  go_loopw [3, 4] (fun v3 v4 W => ∃ i : Nat, v4 = .int .i64 i ∧ i ≤ l.length ∧ Aside0 (Kd.R k59 59 W w.heap.size (fun _ => True) v3 (l.take i) ∧ Below w.heap.size w W)) (fun _ v4 _ => l.length - (intOf v4).toNat)
  case atStart => exact ⟨0, rfl, by omega, ⟨O1.out.1, O1.out.2⟩⟩
  case round =>
    clear O1
    obtain ⟨i, rfl, hi, HV⟩ := hrel
    by_cases hlt : i < l.length
    · have q1 : decide ((i : Int) < (l.length : Int)) = true := decide_eq_true (by omega)
      obtain ⟨ad, A5, c5, e, hx0, hx1, hx2, hx3, hx4, hx5, l5, g5⟩ := at_T59 (Kd.C_below HR.out HV.out.2) (i : Int) (by omega) (by omega)
      subst e
      rw [Int.toNat_natCast] at hx0 hx1 hx2 hx3 hx4 hx5
      have er : rd_T59 l (i : Int) = l[i] := by simp [rd_T59, hlt]
      have HTK := Aside0.mk (show l.take (i + 1) = l.take i ++ [rd_T59 l (i : Int)] from by rw [List.take_succ_eq_append_getElem hlt, er])
      have hpl : (rd_T59 l (i : Int)).f2.length ≤ 2000000 := by rw [er]; exact hpx _ (List.getElem_mem _)
      have HF5 := Aside0.mk (copy_some _ hpl)
      clear er hpl
      generalize rd_T59 l (i : Int) = x at *
      have HC5 := Aside0.mk g5
      have HL5 := Aside0.mk l5
      have hws : w.heap.size ≤ wr.heap.size := HV.out.2.size
      clear g5 l5
      go_wp2
      refine start_ (n := 21) (S := fun w' => w'.cell? (ad.add (i * 6)) = some (.int .i64 x.f0) ∧ w'.cell? (⟨(ad.add (i * 6)).block, (ad.add (i * 6)).off + 1, none⟩) = some (.int .i64 x.f1.f0) ∧ w'.cell? (⟨(ad.add (i * 6)).block, (ad.add (i * 6)).off + 2, none⟩) = some (.int .i64 x.f1.f1) ∧ w'.cell? (⟨(ad.add (i * 6)).block, (ad.add (i * 6)).off + 3, none⟩) = some (.int .i64 x.f1.f2) ∧ w'.cell? (⟨(ad.add (i * 6)).block, (ad.add (i * 6)).off + 4, none⟩) = some (.int .i64 x.f1.f3) ∧ w'.cell? (⟨(ad.add (i * 6)).block, (ad.add (i * 6)).off + 5, none⟩) = some (.slice A5 x.f2.length c5)) (ds := [19]) #[false, false, false, false, false, false, false, false, false, false, false, false, false, false, false, false, false, false, false, false, false] (by kernel_rfl) rfl rfl ⟨hx0, hx1, hx2, hx3, hx4, hx5⟩ (fun hHeld => ?_)
      refine pure_ (i := 0) (N := some 17) (v := ?_) (a' := ?_) #[true, false, false, false, false, false, false, false, false, false, false, false, false, false, false, false, false, false, false, false, false] rfl rfl (by kernel_rfl) (fun _ _ _ h => h) (Or.inl ⟨by rfl, ?_⟩) ?_ ?_
      rotate_left
      · intro w'
        go_simp
        with_reducible rfl
      rotate_left
      · simp only [Act.put, List.setIfInBounds_toArray, List.set_cons_zero, List.set_cons_succ, i64_w, i32_w]
        rfl
      refine pure_ (i := 1) (N := some 18) (v := ?_) (a' := ?_) #[true, true, false, false, false, false, false, false, false, false, false, false, false, false, false, false, false, false, false, false, false] rfl rfl (by kernel_rfl) (fun _ _ _ h => h) (Or.inl ⟨by rfl, ?_⟩) ?_ ?_
      rotate_left
      · intro w'
        go_simp
        with_reducible rfl
      rotate_left
      · simp only [Act.put, List.setIfInBounds_toArray, List.set_cons_zero, List.set_cons_succ, i64_w, i32_w]
        rfl
      refine pure_ (i := 2) (N := some 19) (v := ?_) (a' := ?_) #[true, true, true, false, false, false, false, false, false, false, false, false, false, false, false, false, false, false, false, false, false] rfl rfl (by kernel_rfl) (fun _ _ _ h => h) (Or.inl ⟨by rfl, ?_⟩) ?_ ?_
      rotate_left
      · intro w'
        go_simp
        with_reducible rfl
      rotate_left
      · simp only [Act.put, List.setIfInBounds_toArray, List.set_cons_zero, List.set_cons_succ, i64_w, i32_w]
        rfl
      refine pure_ (i := 3) (N := some 20) (v := ?_) (a' := ?_) #[true, true, true, true, false, false, false, false, false, false, false, false, false, false, false, false, false, false, false, false, false] rfl rfl (by kernel_rfl) (fun _ _ _ h => h) (Or.inl ⟨by rfl, ?_⟩) ?_ ?_
      rotate_left
      · intro w'
        go_simp
        with_reducible rfl
      rotate_left
      · simp only [Act.put, List.setIfInBounds_toArray, List.set_cons_zero, List.set_cons_succ, i64_w, i32_w]
        rfl
      refine pure_ (i := 4) (N := some 21) (v := ?_) (a' := ?_) #[true, true, true, true, true, false, false, false, false, false, false, false, false, false, false, false, false, false, false, false, false] rfl rfl (by kernel_rfl) (fun _ _ _ h => h) (Or.inl ⟨by rfl, ?_⟩) ?_ ?_
      rotate_left
      · intro w'
        go_simp
        with_reducible rfl
      rotate_left
      · simp only [Act.put, List.setIfInBounds_toArray, List.set_cons_zero, List.set_cons_succ, i64_w, i32_w]
        rfl
      refine pure_ (i := 6) (N := some 23) (v := ?_) (a' := ?_) #[true, true, true, true, true, false, true, false, false, false, false, false, false, false, false, false, false, false, false, false, false] rfl rfl (by kernel_rfl) (fun _ _ _ h => h) (Or.inl ⟨by rfl, ?_⟩) ?_ ?_
      rotate_left
      · intro w'
        go_simp
        with_reducible rfl
      rotate_left
      · simp only [Act.put, List.setIfInBounds_toArray, List.set_cons_zero, List.set_cons_succ, i64_w, i32_w]
        rfl
      refine pure_ (i := 7) (N := some 24) (v := ?_) (a' := ?_) #[true, true, true, true, true, false, true, true, false, false, false, false, false, false, false, false, false, false, false, false, false] rfl rfl (by kernel_rfl) (fun _ _ _ h => h) (Or.inl ⟨by rfl, ?_⟩) ?_ ?_
      rotate_left
      · intro w'
        go_simp
        with_reducible rfl
      rotate_left
      · simp only [Act.put, List.setIfInBounds_toArray, List.set_cons_zero, List.set_cons_succ, i64_w, i32_w]
        rfl
      refine pure_ (i := 8) (N := some 25) (v := ?_) (a' := ?_) #[true, true, true, true, true, false, true, true, true, false, false, false, false, false, false, false, false, false, false, false, false] rfl rfl (by kernel_rfl) (fun _ _ _ h => h) (Or.inl ⟨by rfl, ?_⟩) ?_ ?_
      rotate_left
      · intro w'
        go_simp
        with_reducible rfl
      rotate_left
      · simp only [Act.put, List.setIfInBounds_toArray, List.set_cons_zero, List.set_cons_succ, i64_w, i32_w]
        rfl
      refine pure_ (i := 9) (N := some 26) (v := ?_) (a' := ?_) #[true, true, true, true, true, false, true, true, true, true, false, false, false, false, false, false, false, false, false, false, false] rfl rfl (by kernel_rfl) (fun _ _ _ h => h) (Or.inl ⟨by rfl, ?_⟩) ?_ ?_
      rotate_left
      · intro w'
        go_simp
        with_reducible rfl
      rotate_left
      · simp only [Act.put, List.setIfInBounds_toArray, List.set_cons_zero, List.set_cons_succ, i64_w, i32_w]
        rfl
      refine pure_ (i := 11) (N := some 28) (v := ?_) (a' := ?_) #[true, true, true, true, true, false, true, true, true, true, false, true, false, false, false, false, false, false, false, false, false] rfl rfl (by kernel_rfl) (fun _ _ _ h => h) (Or.inl ⟨by rfl, ?_⟩) ?_ ?_
      rotate_left
      · intro w'
        go_simp
        with_reducible rfl
      rotate_left
      · simp only [Act.put, List.setIfInBounds_toArray, List.set_cons_zero, List.set_cons_succ, i64_w, i32_w]
        rfl
      refine pure_ (i := 12) (N := some 29) (v := ?_) (a' := ?_) #[true, true, true, true, true, false, true, true, true, true, false, true, true, false, false, false, false, false, false, false, false] rfl rfl (by kernel_rfl) (fun _ _ _ h => h) (Or.inl ⟨by rfl, ?_⟩) ?_ ?_
      rotate_left
      · intro w'
        go_simp
        with_reducible rfl
      rotate_left
      · simp only [Act.put, List.setIfInBounds_toArray, List.set_cons_zero, List.set_cons_succ, i64_w, i32_w]
        rfl
      refine pure_ (i := 13) (N := some 30) (v := ?_) (a' := ?_) #[true, true, true, true, true, false, true, true, true, true, false, true, true, true, false, false, false, false, false, false, false] rfl rfl (by kernel_rfl) (fun _ _ _ h => h) (Or.inl ⟨by rfl, ?_⟩) ?_ ?_
      rotate_left
      · intro w'
        go_simp
        with_reducible rfl
      rotate_left
      · simp only [Act.put, List.setIfInBounds_toArray, List.set_cons_zero, List.set_cons_succ, i64_w, i32_w]
        rfl
      refine pure_ (i := 14) (N := some 31) (v := ?_) (a' := ?_) #[true, true, true, true, true, false, true, true, true, true, false, true, true, true, true, false, false, false, false, false, false] rfl rfl (by kernel_rfl) (fun _ _ _ h => h) (Or.inl ⟨by rfl, ?_⟩) ?_ ?_
      rotate_left
      · intro w'
        go_simp
        with_reducible rfl
      rotate_left
      · simp only [Act.put, List.setIfInBounds_toArray, List.set_cons_zero, List.set_cons_succ, i64_w, i32_w]
        rfl
      refine take_ (i := 5) (N := some 22) (v := ?_) (a' := ?_) #[true, true, true, true, true, true, true, true, true, true, false, true, true, true, true, false, false, false, false, false, false] rfl rfl (by kernel_rfl) (fun _ _ _ h => h) (Or.inl ⟨by rfl, ?_⟩) hHeld ?_ ?_
      rotate_left
      · rintro w' ⟨s0, s1, s2, s3, s4, s5⟩
        go_simp
        with_reducible rfl
      rotate_left
      · simp only [Act.put, List.setIfInBounds_toArray, List.set_cons_zero, List.set_cons_succ, i64_w, i32_w]
        rfl
      refine take_ (i := 10) (N := some 27) (v := ?_) (a' := ?_) #[true, true, true, true, true, true, true, true, true, true, true, true, true, true, true, false, false, false, false, false, false] rfl rfl (by kernel_rfl) (fun _ _ _ h => h) (Or.inl ⟨by rfl, ?_⟩) hHeld ?_ ?_
      rotate_left
      · rintro w' ⟨s0, s1, s2, s3, s4, s5⟩
        go_simp
        with_reducible rfl
      rotate_left
      · simp only [Act.put, List.setIfInBounds_toArray, List.set_cons_zero, List.set_cons_succ, i64_w, i32_w]
        rfl
      refine take_ (i := 15) (N := some 32) (v := ?_) (a' := ?_) #[true, true, true, true, true, true, true, true, true, true, true, true, true, true, true, true, false, false, false, false, false] rfl rfl (by kernel_rfl) (fun _ _ _ h => h) (Or.inl ⟨by rfl, ?_⟩) hHeld ?_ ?_
      rotate_left
      · rintro w' ⟨s0, s1, s2, s3, s4, s5⟩
        go_simp
        with_reducible rfl
      rotate_left
      · simp only [Act.put, List.setIfInBounds_toArray, List.set_cons_zero, List.set_cons_succ, i64_w, i32_w]
        rfl
      refine one_ (i := 16) (N := some 33) #[true, true, true, true, true, true, true, true, true, true, true, true, true, true, true, true, true, false, false, false, false] rfl rfl (by kernel_rfl) (by decide) (fun K hK => ?_)
      refine goes_ Try.func74 (by kernel_rfl) rfl #[.slice A5 x.f2.length c5] (by rfl) rfl rfl (by simp only [List.map_toArray, List.map_cons, List.map_nil]; rfl) ?_
      with_reducible refine (spec_copyInts.calls A5 c5 x.f2 x.f2 _ (Kd.C_drew HC5.out) HL5.out HF5.out).mono ?_
      rintro e w3 ⟨v18, rfl, ho, hb⟩
      refine ⟨_, rfl, ?_⟩
      obtain ⟨A7, q7, e7⟩ := Kd.R_slice ho
      subst e7
      have RP3 := Aside0.mk (Kd.R_bound ho)
      have RO3 := Aside0.mk (Kd.R_old HV.out.1 (below_then (below_drew (Below.refl _ _)) (Nat.le_refl _) hb))
      have HB3 := Aside0.mk (below_then (below_drew HV.out.2) (below_drew HV.out.2).size hb)
      have y0 := Aside0.mk ((hb.cell (World.block_lt_of_cell? _ _ hx0)).trans hx0)
      have y1 := Aside0.mk ((hb.cell (World.block_lt_of_cell? _ _ hx1)).trans hx1)
      have y2 := Aside0.mk ((hb.cell (World.block_lt_of_cell? _ _ hx2)).trans hx2)
      have y3 := Aside0.mk ((hb.cell (World.block_lt_of_cell? _ _ hx3)).trans hx3)
      have y4 := Aside0.mk ((hb.cell (World.block_lt_of_cell? _ _ hx4)).trans hx4)
      have y5 := Aside0.mk ((hb.cell (World.block_lt_of_cell? _ _ hx5)).trans hx5)
      clear ho hb
      refine hK.out _ _ ⟨y0.out, y1.out, y2.out, y3.out, y4.out, y5.out⟩ (fun hHeld => ?_)
      clear hK K
      refine norm_ (a' := ?_) ?_ ?_
      rotate_left
      · show Act.put _ (some 33) _ = _
        simp only [Act.put, List.setIfInBounds_toArray, List.set_cons_zero, List.set_cons_succ, i64_w, i32_w]
        rfl
      refine pure_ (i := 17) (N := some 34) (v := ?_) (a' := ?_) #[true, true, true, true, true, true, true, true, true, true, true, true, true, true, true, true, true, true, false, false, false] rfl rfl (by kernel_rfl) (fun _ _ _ h => h) (Or.inl ⟨by rfl, ?_⟩) ?_ ?_
      rotate_left
      · intro w'
        go_simp
        with_reducible rfl
      rotate_left
      · simp only [Act.put, List.setIfInBounds_toArray, List.set_cons_zero, List.set_cons_succ, i64_w, i32_w]
        rfl
      refine one_ (i := 18) (N := some 35) #[true, true, true, true, true, true, true, true, true, true, true, true, true, true, true, true, true, true, true, false, false] rfl rfl (by kernel_rfl) (by decide) (fun K hK => ?_)
      refine value_ (w1 := ?_) (v := ?_) (by rfl) rfl ?_ ?_
      rotate_left 2
      · go_simp
        constructor
        · rfl
        · rfl
      refine hK.out _ _ ⟨((World.cell?_alloc_lt _ _ _ (World.block_lt_of_cell? _ _ y0.out)).trans y0.out), ((World.cell?_alloc_lt _ _ _ (World.block_lt_of_cell? _ _ y1.out)).trans y1.out), ((World.cell?_alloc_lt _ _ _ (World.block_lt_of_cell? _ _ y2.out)).trans y2.out), ((World.cell?_alloc_lt _ _ _ (World.block_lt_of_cell? _ _ y3.out)).trans y3.out), ((World.cell?_alloc_lt _ _ _ (World.block_lt_of_cell? _ _ y4.out)).trans y4.out), ((World.cell?_alloc_lt _ _ _ (World.block_lt_of_cell? _ _ y5.out)).trans y5.out)⟩ (fun hHeld => ?_)
      clear hK K
      refine norm_ (a' := ?_) ?_ ?_
      rotate_left
      · show Act.put _ (some 35) _ = _
        simp only [Act.put, List.setIfInBounds_toArray, List.set_cons_zero, List.set_cons_succ, i64_w, i32_w]
        rfl
      refine last_ (i := 19) (N := some 36) #[true, true, true, true, true, true, true, true, true, true, true, true, true, true, true, true, true, true, true, true, false] rfl rfl (by kernel_rfl) (by decide) (fun K hK => ?_)
      refine Kd.R_append_step k59 (w0 := w) w.heap.size (by rfl) (.tmp 17) (.tmp 35) 53 59 (.agg #[(.int .i64 0), (.int .i64 0), (.int .i64 0), (.int .i64 0), (.int .i64 0), (.slice none 0 0)]) 64 rfl Try.underlying53 info59 rfl (by decide) (by omega) u3 (l.take i) x [.int .i64 x.f0, .int .i64 x.f1.f0, .int .i64 x.f1.f1, .int .i64 x.f1.f2, .int .i64 x.f1.f3, (.slice A7 x.f2.length q7)] (fun _ => True) (fun k => some k ≠ u3.ownBlock) rfl rfl (k59_mkM _ _ _ x (Kd.R_lower (Kd.R_mono RP3.out (fun k hk he => by have h1 : wr.heap.size ≤ k := hk.2.1; have h2 := (RO3.out.1 k he.symm).2; omega)) hws)) (fun k hk => ⟨trivial, hk⟩) (fun _ _ => trivial) (Kd.R_mono RO3.out (fun _ _ => trivial)) HB3.out HB3.out.size (by rw [List.length_take]; omega) ?_
      intro v5 w5 ho hb5 hg hat
      have O5 := Aside0.mk (And.intro ho hb5)
      clear ho hb5 hg hat
      refine hK.out _ _ ?_
      clear hK K
      refine norm_ (a' := ?_) ?_ ?_
      rotate_left
      · show Act.put _ (some 36) _ = _
        simp only [Act.put, List.setIfInBounds_toArray, List.set_cons_zero, List.set_cons_succ, i64_w, i32_w]
        rfl
      refine pure_ (i := 20) (N := some 3) (v := ?_) (a' := ?_) #[true, true, true, true, true, true, true, true, true, true, true, true, true, true, true, true, true, true, true, true, true] rfl rfl (by kernel_rfl) (fun _ _ _ h => h) (Or.inl ⟨by rfl, ?_⟩) ?_ ?_
      rotate_left
      · intro w'
        go_simp
        with_reducible rfl
      rotate_left
      · simp only [Act.put, List.setIfInBounds_toArray, List.set_cons_zero, List.set_cons_succ, i64_w, i32_w]
        rfl
      refine done_ (by kernel_rfl) ?_
      go_wp2
      go_roundw
      case rel => exact ⟨i + 1, by go_num, by omega, ⟨by rw [HTK.out]; exact O5.out.1, O5.out.2⟩⟩
      case measure => simp [intOf]; omega
    · have q1 : decide ((i : Int) < (l.length : Int)) = false := decide_eq_false (by omega)
      have htl : l.take i = l := List.take_of_length_le (by omega)
      rw [htl] at HV
      go_wp2
      go_loopg [3] 13 (fun kq v3 W => ∃ (cur : List S59), cur.length < kq ∧ cur.length ≤ 12 ∧ Aside0 (Kd.V k59 59 W w.heap.size (fun k_ => w.heap.size ≤ k_) v3 cur ∧ Below w.heap.size w W ∧ specSimp kq cur = specSimp 13 l))
      case atStart => exact ⟨l, by omega, h12, ⟨Kd.V_mono (Kd.R_V (Kd.R_bound HV.out.1)) (fun _ hk => hk.2.1), HV.out.2, rfl⟩⟩
      case round =>
        clear HV htl
        obtain ⟨cur, hms, h12c, HV⟩ := hrel
        cases gk with
        | zero => omega
        | succ k1 =>
          obtain ⟨kf, hkf⟩ := simpler_some cur (by omega)
          have hsf := HV.out.2.2
          rw [specSimp] at hsf
          obtain ⟨A3, c3, e3⟩ := Kd.V_slice HV.out.1
          obtain rfl : u3 = .slice A3 cur.length c3 := by
            obtain ⟨A4, c4, e4, _⟩ := HV.out.1
            rw [e4] at e3 ⊢
            injection e3 with ea _ ec
            rw [ea, ec]
          cases hst : stepAt cur.length cur 0 with
          | none =>
            rw [hst] at hkf hsf
            have HS := Aside0.mk (spec_simpler.calls kf (fun k_ => w.heap.size ≤ k_) A3 c3 cur cur false wr (Kd.V_map HV.out.1 (fun _ hf => hf)) hkf)
            have HSF := Aside0.mk hsf
            clear hkf hsf e3 hst
            go_wp2_with (first
              | (go_at_call 75; (with_reducible refine (HS.out).mono ?_); rintro e w2 ⟨v39, rfl, hv, hb⟩; have HV2 := Aside0.mk (Kd.V_below HV.out.1 hb); have HB2 := Aside0.mk (below_then HV.out.2.1 HV.out.2.1.size hb); clear hb hv))
            go_ret
            exact ⟨_, rfl, by rw [← HSF.out]; exact HV2.out, HB2.out⟩
          | some m =>
            have hml := (stepAt_len _ _ _ _ hst).1
            rw [hst] at hkf hsf
            have HS := Aside0.mk (spec_simpler.calls kf (fun k_ => w.heap.size ≤ k_) A3 c3 cur m true wr (Kd.V_map HV.out.1 (fun _ hf => hf)) hkf)
            have HSF := Aside0.mk hsf
            clear hkf hsf e3 hst
            go_wp2_with (first
              | (go_at_call 75; (with_reducible refine (HS.out).mono ?_); rintro e w2 ⟨v39, rfl, hv, hb⟩; have HV2 := Aside0.mk (Kd.V_map (base' := w.heap.size) (Kd.V_mono (ok' := fun k_ => w.heap.size ≤ k_) hv (fun k_ hk => hk.elim id (fun h => by have := HV.out.2.1.size; omega))) (fun _ hf => hf)); have HB2 := Aside0.mk (below_then HV.out.2.1 HV.out.2.1.size hb); clear hb hv))
            go_roundg k1
            case measure => omega
            case rel => exact ⟨m, by omega, by omega, ⟨HV2.out, HB2.out, HSF.out⟩⟩
theorem spec_SimplifySteps.calls (A0 : Option Addr) (c0 : Nat) (l0 : List S59) (r : List S59) (w : World) (hr0 : Kd.C k59 w A0 l0.length l0) (hc0 : l0.length ≤ c0) (h : spec_SimplifySteps.f l0 = some r) :
    Calls Try.prog 40 #[.slice A0 l0.length c0] w fun e w' => ∃ v0_ : Value, e = .returned (v0_) ∧ Kd.V k59 59 w' w.heap.size (fun k_ => w.heap.size ≤ k_) v0_ r ∧ Below w.heap.size w w' := by
  unfold spec_SimplifySteps.f at h
  by_cases ha : l0.all (fun s => decide (s.f2.length ≤ 2000000)) = true
  · rw [if_pos ha] at h
    by_cases h12 : 12 < l0.length
    · rw [if_pos h12] at h
      obtain rfl := Option.some.inj h
      have q12 : decide ((l0.length : Int) > 12) = true := decide_eq_true (by omega)
      have q12b : decide (12 < l0.length) = true := decide_eq_true (by omega)
      clear hr0
      go_enter Try.func40, Try.ntmps40
      go_wp2
      go_ret
      exact ⟨_, rfl, Kd.V_nil _ _ _ _ _, Below.refl _ _⟩
    · rw [if_neg h12] at h
      obtain rfl := Option.some.inj h
      exact specSimp_some A0 c0 l0 w hr0 (by omega) (fun s hs => by
        have := List.all_eq_true.1 ha s hs
        simpa using this)
  · rw [if_neg ha] at h; cases h
end Go.Proofs.Ytgfjccegehnjcaa.Q

/- The law FnExactSimplifySteps: its walk. -/
namespace Go.Proofs.Ytgfjccegehnjcaa.Q
open Go.RowKit Go.Proofs.YtgfjccegehnjcaaW.PrintWords Go.Proofs.YtgfjccegehnjcaaW.PrintLast Go.Proofs.YtgfjccegehnjcaaW.PrintMore
attribute [local go_sem] max2_int min2_int max_two min_two max_three min_three max_four min_four
set_option linter.unusedVariables false
set_option linter.unusedSimpArgs false

def laws_FnExactSimplifySteps.Goes (k : Nat) (l0_0 : List S98) : Prop := (∃ s0 : Int, laws_szStepS.f k l0_0 1048576 = some s0 ∧ s0 < 0) ∨ (∃ (s0 : Int) (x0_0 : List S59) (v0 : List S59) (k0 : Int) (y0 : List S59) (m : Int) (u : List S59), laws_szStepS.f k l0_0 1048576 = some s0 ∧ ¬ s0 < 0 ∧ laws_toStepS.f k l0_0 = some x0_0 ∧ spec_SimplifySteps.f x0_0 = some v0 ∧ impl_SimplifySteps.f x0_0 = some v0 ∧ laws_eqStepS.f k v0 v0 = some true ∧ laws_eqStepS.f k x0_0 x0_0 = some true ∧ laws_markStepS.f k x0_0 1 = some (k0, y0) ∧ ¬ k0 < 0 ∧ laws_markStepS.f k v0 1 = some (m, u) ∧ laws_heldStepS.f k u 1 = some m ∧ ¬ m < 0)
noncomputable def laws_FnExactSimplifySteps.f (k : Nat) (l0_0 : List S98) : Option Bool := @ite _ (laws_FnExactSimplifySteps.Goes k l0_0) (Classical.propDecidable _) (some true) none
theorem laws_FnExactSimplifySteps.f_of {k : Nat} {l0_0 : List S98} (h : laws_FnExactSimplifySteps.Goes k l0_0) : laws_FnExactSimplifySteps.f k l0_0 = some true := by unfold laws_FnExactSimplifySteps.f; rw [if_pos h]
set_option maxHeartbeats 8000000 in
set_option maxRecDepth 100000 in
theorem laws_FnExactSimplifySteps.big0 (k : Nat) (A0_0 : Option Addr) (c0_0 : Nat) (l0_0 : List S98) (w : World) (hr0 : Kd.C k98 w A0_0 l0_0.length l0_0) (hc0 : l0_0.length ≤ c0_0) (s0 : Int) (hs0 : laws_szStepS.f k l0_0 1048576 = some s0) (hn0 : s0 < 0) : Calls Try.prog 16 #[.slice A0_0 l0_0.length c0_0] w fun e w' => e = .returned (.bool true) ∧ Below w.heap.size w w' := by
  have HC0 := Aside0.mk hc0
  have HR0 := Aside0.mk hr0
  have HB := Aside0.mk (Below.refl w.heap.size w)
  clear hc0 hr0
  have HS0 := Aside0.mk hs0
  have dn0 : decide (s0 < 0) = true := decide_eq_true hn0
  clear hs0 hn0
  go_enter Try.func16, Try.ntmps16
  go_wp2_with (first
    | (go_at_call 41; (with_reducible refine (laws_szStepS.calls k A0_0 c0_0 l0_0 1048576 s0 w (Kd.C_below HR0.out HB.out) HC0.out HS0.out).mono ?_); rintro e wz0 ⟨rfl, hb⟩; have HB := Aside0.mk (below_then HB.out HB.out.size hb); clear hb))
  go_ret
  exact ⟨rfl, HB.out⟩
set_option maxHeartbeats 8000000 in
set_option maxRecDepth 100000 in
theorem laws_FnExactSimplifySteps.way (k : Nat) (A0_0 : Option Addr) (c0_0 : Nat) (l0_0 : List S98) (w : World) (hr0 : Kd.C k98 w A0_0 l0_0.length l0_0) (hc0 : l0_0.length ≤ c0_0) (s0 : Int) (x0_0 : List S59) (v0 : List S59) (k0 : Int) (y0 : List S59) (m : Int) (u : List S59) (HS0 : laws_szStepS.f k l0_0 1048576 = some s0) (HN0 : ¬ s0 < 0) (HT0 : laws_toStepS.f k l0_0 = some x0_0) (HSP : spec_SimplifySteps.f x0_0 = some v0) (HIM : impl_SimplifySteps.f x0_0 = some v0) (HEV : laws_eqStepS.f k v0 v0 = some true) (HE0 : laws_eqStepS.f k x0_0 x0_0 = some true) (HM0 : laws_markStepS.f k x0_0 1 = some (k0, y0)) (HKN : ¬ k0 < 0) (HMR : laws_markStepS.f k v0 1 = some (m, u)) (HHR : laws_heldStepS.f k u 1 = some m) (HMN : ¬ m < 0) : Calls Try.prog 16 #[.slice A0_0 l0_0.length c0_0] w fun e w' => e = .returned (.bool true) ∧ Below w.heap.size w w' := by
  have HC0 := Aside0.mk hc0
  have HR0 := Aside0.mk hr0
  have HB := Aside0.mk (Below.refl w.heap.size w)
  clear hc0 hr0
  replace HS0 := Aside0.mk HS0
  replace HN0 := Aside0.mk HN0
  replace HT0 := Aside0.mk HT0
  replace HSP := Aside0.mk HSP
  replace HIM := Aside0.mk HIM
  replace HEV := Aside0.mk HEV
  replace HE0 := Aside0.mk HE0
  replace HM0 := Aside0.mk HM0
  replace HKN := Aside0.mk HKN
  replace HMR := Aside0.mk HMR
  replace HHR := Aside0.mk HHR
  replace HMN := Aside0.mk HMN
  have dn0 : decide (s0 < 0) = false := decide_eq_false HN0.out
  have dk : decide (k0 < 0) = false := decide_eq_false HKN.out
  have dm : decide (m < 0) = false := decide_eq_false HMN.out
  go_enter Try.func16, Try.ntmps16
  go_upto_region 5 with (first
    | (go_at_call 41; (with_reducible refine (laws_szStepS.calls k A0_0 c0_0 l0_0 1048576 s0 w (Kd.C_below HR0.out HB.out) HC0.out HS0.out).mono ?_); rintro e wz0 ⟨rfl, hb⟩; have HB := Aside0.mk (below_then HB.out HB.out.size hb); clear hb))
  have HBSw := Aside0.mk HB.out.size
  go_upto_region 6 with (first
    | (go_at_call 42; (with_reducible refine (laws_toStepS.calls k A0_0 c0_0 l0_0 x0_0 wz0 (Kd.C_below HR0.out HB.out) HC0.out HT0.out).mono ?_); rintro e w1 ⟨vt_, rfl, hr, hb⟩; obtain ⟨At0, ct0, rfl, hl_, hC_⟩ := Kd.S_reads hr; replace HB := Aside0.mk (below_then HB.out HB.out.size hb); have Zw1 := Aside0.mk hb.size; have HT_0 := Aside0.mk hC_; have HL_0 := Aside0.mk hl_; clear hr hb hl_ hC_)
    | (go_at_call 40; (with_reducible refine (spec_SimplifySteps.calls At0 ct0 x0_0 v0 w1 HT_0.out HL_0.out HSP.out).mono ?_); rintro e w2 ⟨v_, rfl, hr, hb⟩; obtain ⟨Aw, cw, ev_⟩ := Kd.V_slice hr; subst ev_; have Rw := Aside0.mk (Kd.V_map (base' := w.heap.size) (Kd.V_mono (Kd.V_bound hr) (fun k_ hk_ => (⟨hk_.1, hk_.2⟩ : w1.heap.size ≤ k_ ∧ k_ < w2.heap.size))) (fun _ hf => hf)); replace HB := Aside0.mk (below_then HB.out HB.out.size hb); have Zw2 := Aside0.mk hb.size; clear hr hb HT_0 HL_0))
  go_upto_region 7 with (first
    | (go_at_call 42; (with_reducible refine (laws_toStepS.calls k A0_0 c0_0 l0_0 x0_0 w2 (Kd.C_below HR0.out HB.out) HC0.out HT0.out).mono ?_); rintro e w3 ⟨v_, rfl, hr, hb⟩; obtain ⟨Ax0, cx0, ev_⟩ := Kd.S_slice hr; subst ev_; have Rx0 := Aside0.mk (Kd.S_lower (Kd.S_mono (Kd.S_bound hr) (fun k_ hk_ => (⟨hk_.2.1, hk_.2.2.1⟩ : w2.heap.size ≤ k_ ∧ k_ < w3.heap.size))) HB.out.size); replace HB := Aside0.mk (below_then HB.out HB.out.size hb); replace Rw := Aside0.mk (Kd.V_below Rw.out hb); have Zw3 := Aside0.mk hb.size; clear hr hb))
  go_upto_region 8 with (first
    | (go_at_call 38; (with_reducible refine (impl_SimplifySteps.callsS Ax0 cx0 x0_0 v0 w3 (Kd.S_reads' Rx0.out).2.2 (Kd.S_reads' Rx0.out).2.1 HIM.out).mono ?_); rintro e w4 ⟨v_, rfl, hr, hb⟩; obtain ⟨Ag, cg, ev_⟩ := Kd.S_slice hr; subst ev_; have Rg := Aside0.mk (Kd.S_lower (Kd.S_mono (Kd.S_bound hr) (fun k_ hk_ => (⟨hk_.2.1, hk_.2.2.1⟩ : w3.heap.size ≤ k_ ∧ k_ < w4.heap.size))) HB.out.size); replace HB := Aside0.mk (below_then HB.out HB.out.size hb); replace Rw := Aside0.mk (Kd.V_below Rw.out hb); replace Rx0 := Aside0.mk (Kd.S_below Rx0.out hb); have Zw4 := Aside0.mk hb.size; clear hr hb))
  go_upto_region 10 with (first
    | (go_at_call 43; (with_reducible refine (laws_eqStepS.calls k Ag cg v0 Aw cw v0 true w4 (Kd.S_reads' Rg.out).2.2 (Kd.S_reads' Rg.out).2.1 (Kd.V_reads' Rw.out).2.2 (Kd.V_reads' Rw.out).2.1 HEV.out).mono ?_); rintro e w5 ⟨rfl, hb⟩; replace HB := Aside0.mk (below_then HB.out HB.out.size hb); replace Rw := Aside0.mk (Kd.V_below Rw.out hb); replace Rx0 := Aside0.mk (Kd.S_below Rx0.out hb); replace Rg := Aside0.mk (Kd.S_below Rg.out hb); have Zw5 := Aside0.mk hb.size; clear hb))
  go_upto_region 12 with (first
    | (go_at_call 42; (with_reducible refine (laws_toStepS.calls k A0_0 c0_0 l0_0 x0_0 w5 (Kd.C_below HR0.out HB.out) HC0.out HT0.out).mono ?_); rintro e w6 ⟨vt_, rfl, hr, hb⟩; obtain ⟨At_, ct_, rfl, hl_, hC_⟩ := Kd.S_reads hr; replace HB := Aside0.mk (below_then HB.out HB.out.size hb); replace Rw := Aside0.mk (Kd.V_below Rw.out hb); replace Rx0 := Aside0.mk (Kd.S_below Rx0.out hb); replace Rg := Aside0.mk (Kd.S_below Rg.out hb); have Zw6 := Aside0.mk hb.size; have HT_ := Aside0.mk hC_; have HL_ := Aside0.mk hl_; clear hr hb hl_ hC_)
    | (go_at_call 43; (with_reducible refine (laws_eqStepS.calls k Ax0 cx0 x0_0 At_ ct_ x0_0 true w6 (Kd.S_reads' Rx0.out).2.2 (Kd.S_reads' Rx0.out).2.1 HT_.out HL_.out HE0.out).mono ?_); rintro e w7 ⟨rfl, hb⟩; replace HB := Aside0.mk (below_then HB.out HB.out.size hb); replace Rw := Aside0.mk (Kd.V_below Rw.out hb); replace Rx0 := Aside0.mk (Kd.S_below Rx0.out hb); replace Rg := Aside0.mk (Kd.S_below Rg.out hb); have Zw7 := Aside0.mk hb.size; clear hb HT_ HL_))
  
  have z0_ := Zw1.out; have z1_ := Zw2.out; have z2_ := Zw3.out; have z3_ := Zw4.out; have z4_ := Zw5.out; have z5_ := Zw6.out; have z6_ := Zw7.out
  go_upto_region 14 with (first
    | (go_at_call 44; (with_reducible refine (laws_markStepS.calls k (fun k_ => w2.heap.size ≤ k_ ∧ k_ < w3.heap.size) (.slice Ax0 x0_0.length cx0) x0_0 1 k0 y0 w w7 HB.out Rx0.out HM0.out).mono ?_); rintro e w8 ⟨rfl, hr, hb, hK⟩; replace Rw := Aside0.mk (Kd.V_kept Rw.out hK (by rintro k_ ⟨h1_, h2_⟩ ⟨h3_, h4_⟩; omega)); replace Rg := Aside0.mk (Kd.S_kept Rg.out hK (by rintro k_ ⟨h1_, h2_⟩ ⟨h3_, h4_⟩; omega)); replace HB := Aside0.mk hb; replace Rx0 := Aside0.mk hr; have Zw8 := Aside0.mk hK.1; clear hr hb hK))
  clear z0_ z1_ z2_ z3_ z4_ z5_ z6_
  go_upto_region 16 with (first
    | (go_at_call 43; (with_reducible refine (laws_eqStepS.calls k Ag cg v0 Aw cw v0 true w8 (Kd.S_reads' Rg.out).2.2 (Kd.S_reads' Rg.out).2.1 (Kd.V_reads' Rw.out).2.2 (Kd.V_reads' Rw.out).2.1 HEV.out).mono ?_); rintro e w9 ⟨rfl, hb⟩; replace HB := Aside0.mk (below_then HB.out HB.out.size hb); replace Rw := Aside0.mk (Kd.V_below Rw.out hb); replace Rg := Aside0.mk (Kd.S_below Rg.out hb); have Zw9 := Aside0.mk hb.size; clear hb))
  have z0_ := Zw1.out; have z1_ := Zw2.out; have z2_ := Zw3.out; have z3_ := Zw4.out; have z4_ := Zw5.out; have z5_ := Zw6.out; have z6_ := Zw7.out; have z7_ := Zw8.out; have z8_ := Zw9.out
  go_upto_region 18 with (first
    | (go_at_call 44; (with_reducible refine (laws_markStepS.calls k (fun k_ => w3.heap.size ≤ k_ ∧ k_ < w4.heap.size) (.slice Ag v0.length cg) v0 1 m u w w9 HB.out Rg.out HMR.out).mono ?_); rintro e w10 ⟨rfl, hr, hb, hK⟩; replace Rw := Aside0.mk (Kd.V_kept Rw.out hK (by rintro k_ ⟨h1_, h2_⟩ ⟨h3_, h4_⟩; omega)); replace HB := Aside0.mk hb; replace Rg := Aside0.mk hr; have Zw10 := Aside0.mk hK.1; clear hr hb hK))
  clear z0_ z1_ z2_ z3_ z4_ z5_ z6_ z7_ z8_
  have eu := Aside0.mk (Kd.S_reads' Rg.out).1
  replace Rg := Aside0.mk (show Kd.S k59 59 w10 w.heap.size (fun k_ => 0 ≤ k_ ∧ k_ < w10.heap.size) (.slice Ag u.length cg) u from by rw [← eu.out]; exact Kd.S_mono (Kd.S_bound Rg.out) (fun k_ hk_ => ⟨Nat.zero_le _, hk_.2.2.1⟩))
  go_upto_region 24 with (first
    | (go_at_call 45; have hq_ := laws_heldStepS.calls k Ag cg u 1 m w10 (Kd.S_reads' Rg.out).2.2 (Kd.S_reads' Rg.out).2.1 HHR.out; rw [← eu.out] at hq_; (with_reducible refine hq_.mono ?_); clear hq_; rintro e w11 ⟨rfl, hb⟩; replace hb := hb.below; replace HB := Aside0.mk (below_then HB.out HB.out.size hb); replace Rw := Aside0.mk (Kd.V_below Rw.out hb); replace Rg := Aside0.mk (Kd.S_below Rg.out hb); have Zw11 := Aside0.mk hb.size; clear hb))
  have HBSh := Aside0.mk HB.out.size
  go_upto_region 25 with (first
    | (go_at_call 42; (with_reducible refine (laws_toStepS.calls k A0_0 c0_0 l0_0 x0_0 w11 (Kd.C_below HR0.out HB.out) HC0.out HT0.out).mono ?_); rintro e w12 ⟨vt_, rfl, hr, hb⟩; obtain ⟨At0, ct0, rfl, hl_, hC_⟩ := Kd.S_reads hr; replace HB := Aside0.mk (below_then HB.out HB.out.size hb); replace Rw := Aside0.mk (Kd.V_below Rw.out hb); replace Rg := Aside0.mk (Kd.S_below Rg.out hb); have Zw12 := Aside0.mk hb.size; have HT_0 := Aside0.mk hC_; have HL_0 := Aside0.mk hl_; clear hr hb hl_ hC_)
    | (go_at_call 38; (with_reducible refine (impl_SimplifySteps.callsS At0 ct0 x0_0 v0 w12 HT_0.out HL_0.out HIM.out).mono ?_); rintro e w13 ⟨v_, rfl, hr, hb⟩; obtain ⟨Ah, ch, ev_⟩ := Kd.S_slice hr; subst ev_; have Rh := Aside0.mk (Kd.S_lower (Kd.S_mono (Kd.S_bound hr) (fun k_ hk_ => (⟨hk_.2.1, hk_.2.2.1⟩ : w12.heap.size ≤ k_ ∧ k_ < w13.heap.size))) HB.out.size); replace HB := Aside0.mk (below_then HB.out HB.out.size hb); replace Rw := Aside0.mk (Kd.V_below Rw.out hb); replace Rg := Aside0.mk (Kd.S_below Rg.out hb); have Zw13 := Aside0.mk hb.size; clear hr hb HT_0 HL_0))
  go_upto_region 27 with (first
    | (go_at_call 43; (with_reducible refine (laws_eqStepS.calls k Ah ch v0 Aw cw v0 true w13 (Kd.S_reads' Rh.out).2.2 (Kd.S_reads' Rh.out).2.1 (Kd.V_reads' Rw.out).2.2 (Kd.V_reads' Rw.out).2.1 HEV.out).mono ?_); rintro e w14 ⟨rfl, hb⟩; replace HB := Aside0.mk (below_then HB.out HB.out.size hb); replace Rw := Aside0.mk (Kd.V_below Rw.out hb); replace Rg := Aside0.mk (Kd.S_below Rg.out hb); replace Rh := Aside0.mk (Kd.S_below Rh.out hb); have Zw14 := Aside0.mk hb.size; clear hb))
  go_wp2_with (first
    | (go_at_call 45; have hq_ := laws_heldStepS.calls k Ag cg u 1 m w14 (Kd.S_reads' Rg.out).2.2 (Kd.S_reads' Rg.out).2.1 HHR.out; rw [← eu.out] at hq_; (with_reducible refine hq_.mono ?_); clear hq_; rintro e w15 ⟨rfl, hb⟩; replace hb := hb.below; replace HB := Aside0.mk (below_then HB.out HB.out.size hb); replace Rw := Aside0.mk (Kd.V_below Rw.out hb); replace Rg := Aside0.mk (Kd.S_below Rg.out hb); replace Rh := Aside0.mk (Kd.S_below Rh.out hb); have Zw15 := Aside0.mk hb.size; clear hb))
  go_ret
  exact ⟨rfl, HB.out⟩
theorem laws_FnExactSimplifySteps.calls (k : Nat) (A0_0 : Option Addr) (c0_0 : Nat) (l0_0 : List S98) (r : Bool) (w : World) (hr0 : Kd.C k98 w A0_0 l0_0.length l0_0) (hc0 : l0_0.length ≤ c0_0) (h : laws_FnExactSimplifySteps.f k l0_0 = some r) : Calls Try.prog 16 #[.slice A0_0 l0_0.length c0_0] w fun e w' => e = .returned (.bool r) ∧ Below w.heap.size w w' := by
  unfold laws_FnExactSimplifySteps.f at h
  by_cases hg : laws_FnExactSimplifySteps.Goes k l0_0
  · rw [if_pos hg] at h
    obtain rfl : true = r := Option.some.inj h
    clear h
    unfold laws_FnExactSimplifySteps.Goes at hg
    rcases hg with ⟨s0, hs0, hn0⟩ | ⟨s0, x0_0, v0, k0, y0, m, u, HS0, HN0, HT0, HSP, HIM, HEV, HE0, HM0, HKN, HMR, HHR, HMN⟩
    · exact laws_FnExactSimplifySteps.big0 k A0_0 c0_0 l0_0 w hr0 hc0 s0 hs0 hn0
    · exact laws_FnExactSimplifySteps.way k A0_0 c0_0 l0_0 w hr0 hc0 s0 x0_0 v0 k0 y0 m u HS0 HN0 HT0 HSP HIM HEV HE0 HM0 HKN HMR HHR HMN
  · rw [if_neg hg] at h; cases h

/- The statement over plain lists and numbers that is left of the law FnExactSimplifySteps. -/
def laws_FnExactSimplifySteps.Pure : Prop := ∀ (l0 : List (S98)), (∀ y ∈ l0, wg98 y) → l0.length ≤ 9223372036854775807 → ∃ k, laws_FnExactSimplifySteps.f k l0 = some true
end Go.Proofs.Ytgfjccegehnjcaa.Q

/- The program's SimplifySteps and the reference's return the same, and what is returned is held by nobody else: over lists of numbers alone. -/
namespace Go.Proofs.Ytgfjccegehnjcaa.Pure
open Go.RowKit Go.Proofs.Ytgfjccegehnjcaa.Q Go.Proofs.YtgfjccegehnjcaaW.PrintWords Go.Proofs.YtgfjccegehnjcaaW.PrintLast Go.Proofs.YtgfjccegehnjcaaW.PrintMore
set_option linter.unusedVariables false
set_option linter.unusedSimpArgs false

theorem simp_both (c : List RowI) (hcb : ∀ s ∈ c, lenI s ≤ 1048576) : ∃ v : List RowI, spec_SimplifySteps.f c = some v ∧ impl_SimplifySteps.f c = some v ∧ v.length ≤ 12 ∧ ∀ s ∈ v, lenI s ≤ 1048576 := by
  have ha : c.all (fun s => decide (s.f2.length ≤ 2000000)) = true := List.all_eq_true.2 (fun s hs => by
    have h := hcb s hs
    unfold lenI at h
    exact decide_eq_true (by omega))
  by_cases h12 : 12 < c.length
  · refine ⟨[], ?_, ?_, by simp, fun s hs => by simp at hs⟩
    · unfold spec_SimplifySteps.f; rw [if_pos ha, if_pos h12]
    · unfold impl_SimplifySteps.f; rw [if_pos ha, if_pos h12]
  · have hsub := specSimp_sub 13 c
    refine ⟨specSimp 13 c, ?_, ?_, by omega, fun s hs => hcb s (hsub.2 s hs)⟩
    · unfold spec_SimplifySteps.f; rw [if_pos ha, if_neg h12]
    · unfold impl_SimplifySteps.f; rw [if_pos ha, if_neg h12, simpF_eq c (by omega)]
theorem FnExactSimplifySteps : laws_FnExactSimplifySteps.Pure := by
  intro l
  intros
  rename_i hwf hll
  have hb : ∀ s ∈ l, lenL s ≤ 9223372036854775807 := fun s hs => (hwf s hs).2.2.2
  obtain ⟨m, ⟨K0, e0⟩, hm⟩ := szRow_ev l hll hb 1048576 (by omega) (by omega)
  by_cases cm : m < 0
  · exact ⟨K0, laws_FnExactSimplifySteps.f_of (Or.inl ⟨_, e0 _ (by omega), cm⟩)⟩
  · obtain ⟨_, _, hl1, hsum⟩ := hm.resolve_left cm
    have hb2 : ∀ s ∈ l, lenL s ≤ 1048576 := fun s hs => Nat.le_trans (len_sum l s hs) hsum
    obtain ⟨K2, e2⟩ := toRow_ev l (by omega) (fun s hs => by have := hb2 s hs; omega)
    have hcl : (l.map cRow).length ≤ 1048576 := by rw [List.length_map]; exact hl1
    have hcb : ∀ s ∈ l.map cRow, lenI s ≤ 1048576 := fun s hs => by
      obtain ⟨x, hx, rfl⟩ := List.mem_map.1 hs
      exact hb2 x hx
    have htot : totI (l.map cRow) ≤ 7000000 := by rw [tot_c]; omega
    generalize l.map cRow = c at e2 hcl hcb htot
    obtain ⟨v, hS, hI, hvl, hvb⟩ := simp_both c hcb
    have hvt : totI v ≤ 13000000 := by
      have h1 := tot_sub v 1048576 hvb
      have h2 : v.length * (1048576 + 5) ≤ 12 * (1048576 + 5) := Nat.mul_le_mul_right _ hvl
      omega
    obtain ⟨K6, e6⟩ := eqRow_ev v (by omega) (fun s hs => by have := hvb s hs; omega)
    obtain ⟨K8, e8⟩ := eqRow_ev c (by omega) (fun s hs => by have := hcb s hs; omega)
    obtain ⟨K11, e11⟩ := markS_is c 1 (by omega) (by omega) (by omega)
    obtain ⟨K13, e13⟩ := markS_is v 1 (by omega) (by omega) (by omega)
    obtain ⟨K14, e14⟩ := heldS_is v 1 (by omega) (by omega) (by omega)
    refine ⟨K0 + K2 + K6 + K8 + K11 + K13 + K14 + 1, laws_FnExactSimplifySteps.f_of (Or.inr ?_)⟩
    exact ⟨_, c, v, _, _, _, _, e0 _ (by omega), cm, e2 _ (by omega), hS, hI, e6 _ (by omega), e8 _ (by omega), e11 _ (by omega), by omega, e13 _ (by omega), e14 _ (by omega), by omega⟩
end Go.Proofs.Ytgfjccegehnjcaa.Pure

/- The head of the translation reads as a plain cut. -/
namespace Go.Proofs.Ytgfjccegehnjcaa.Head
set_option maxRecDepth 100000
theorem wordsSigns_word (w r : List Char) (h : w.all (fun c => !(c == Char.ofNat 32)) = true) : wordsSigns (w ++ Char.ofNat 32 :: r) = w :: wordsSigns r := by
  induction w with
  | nil => rfl
  | cons c w ih =>
    simp only [List.all_cons, Bool.and_eq_true, Bool.not_eq_true', beq_eq_false_iff_ne, ne_eq] at h
    have h1 := ih (by simpa using h.2)
    rw [List.cons_append, wordsSigns.eq_3 c _ h.1, h1]
def w1 : List Char := [104, 97, 114, 110, 101, 115, 115].map Char.ofNat
def w2 : List Char := [48, 100, 49, 102, 49, 53, 55, 48, 99, 99, 57, 98, 53, 48, 51, 53, 98, 98, 54, 53, 53, 57, 52, 57, 56, 56, 101, 56, 99, 56, 56, 54, 99, 98, 102, 101, 54, 98, 57, 100, 98, 48, 99, 102, 53, 100, 51, 56, 102, 56, 97, 48, 54, 100, 52, 52, 97, 98, 97, 98, 99, 53, 52, 48].map Char.ofNat
def w3 : List Char := [99, 117, 116].map Char.ofNat
def w4 : List Char := [97, 116, 32, 108, 111, 111, 112, 46, 101, 120, 97, 109, 112, 108, 101, 47, 112, 105, 120, 101, 108, 119, 111, 114, 107, 115, 47, 108, 97, 119, 115, 46, 70, 110, 69, 120, 97, 99, 116, 66, 108, 101, 110, 100, 78, 117, 109, 98, 101, 114, 32, 108, 111, 111, 112, 46, 101, 120, 97, 109, 112, 108, 101, 47, 112, 105, 120, 101, 108, 119, 111, 114, 107, 115, 47, 108, 97, 119, 115, 46, 70, 110, 69, 120, 97, 99, 116, 86, 97, 108, 105, 100, 80, 97, 99, 107, 105, 110, 103, 32, 108, 111, 111, 112, 46, 101, 120, 97, 109, 112, 108, 101, 47, 112, 105, 120, 101, 108, 119, 111, 114, 107, 115, 47, 108, 97, 119, 115, 46, 70, 110, 69, 120, 97, 99, 116, 76, 101, 97, 115, 116, 72, 101, 105, 103, 104, 116, 32, 108, 111, 111, 112, 46, 101, 120, 97, 109, 112, 108, 101, 47, 112, 105, 120, 101, 108, 119, 111, 114, 107, 115, 47, 108, 97, 119, 115, 46, 70, 110, 76, 101, 97, 115, 116, 72, 101, 105, 103, 104, 116, 32, 108, 111, 111, 112, 46, 101, 120, 97, 109, 112, 108, 101, 47, 112, 105, 120, 101, 108, 119, 111, 114, 107, 115, 47, 108, 97, 119, 115, 46, 70, 110, 66, 108, 101, 110, 100, 78, 117, 109, 98, 101, 114, 32, 108, 111, 111, 112, 46, 101, 120, 97, 109, 112, 108, 101, 47, 112, 105, 120, 101, 108, 119, 111, 114, 107, 115, 47, 108, 97, 119, 115, 46, 70, 110, 66, 108, 101, 110, 100, 78, 117, 109, 98, 101, 114, 73, 110, 118, 101, 114, 116, 32, 108, 111, 111, 112, 46, 101, 120, 97, 109, 112, 108, 101, 47, 112, 105, 120, 101, 108, 119, 111, 114, 107, 115, 47, 108, 97, 119, 115, 46, 70, 110, 66, 108, 101, 110, 100, 78, 117, 109, 98, 101, 114, 77, 111, 100, 101, 115, 32, 108, 111, 111, 112, 46, 101, 120, 97, 109, 112, 108, 101, 47, 112, 105, 120, 101, 108, 119, 111, 114, 107, 115, 47, 108, 97, 119, 115, 46, 70, 110, 66, 108, 101, 110, 100, 78, 117, 109, 98, 101, 114, 65, 108, 112, 104, 97, 32, 108, 111, 111, 112, 46, 101, 120, 97, 109, 112, 108, 101, 47, 112, 105, 120, 101, 108, 119, 111, 114, 107, 115, 47, 108, 97, 119, 115, 46, 70, 110, 86, 97, 108, 105, 100, 80, 97, 99, 107, 105, 110, 103, 32, 108, 111, 111, 112, 46, 101, 120, 97, 109, 112, 108, 101, 47, 112, 105, 120, 101, 108, 119, 111, 114, 107, 115, 47, 108, 97, 119, 115, 46, 70, 110, 86, 97, 108, 105, 100, 80, 97, 99, 107, 105, 110, 103, 84, 119, 105, 99, 101, 32, 108, 111, 111, 112, 46, 101, 120, 97, 109, 112, 108, 101, 47, 112, 105, 120, 101, 108, 119, 111, 114, 107, 115, 47, 108, 97, 119, 115, 46, 70, 110, 80, 97, 99, 107, 83, 112, 114, 105, 116, 101, 115, 79, 110, 101, 32, 108, 111, 111, 112, 46, 101, 120, 97, 109, 112, 108, 101, 47, 112, 105, 120, 101, 108, 119, 111, 114, 107, 115, 47, 108, 97, 119, 115, 46, 70, 110, 80, 97, 99, 107, 83, 112, 114, 105, 116, 101, 115, 72, 101, 105, 103, 104, 116, 32, 108, 111, 111, 112, 46, 101, 120, 97, 109, 112, 108, 101, 47, 112, 105, 120, 101, 108, 119, 111, 114, 107, 115, 47, 108, 97, 119, 115, 46, 70, 110, 83, 105, 109, 112, 108, 105, 102, 121, 83, 116, 101, 112, 115, 84, 119, 105, 99, 101, 32, 108, 111, 111, 112, 46, 101, 120, 97, 109, 112, 108, 101, 47, 112, 105, 120, 101, 108, 119, 111, 114, 107, 115, 47, 108, 97, 119, 115, 46, 70, 110, 69, 120, 97, 99, 116, 83, 105, 109, 112, 108, 105, 102, 121, 83, 116, 101, 112, 115].map Char.ofNat
theorem signs0 : Try.prog.initOrder = String.ofList (w1 ++ Char.ofNat 32 :: (w2 ++ Char.ofNat 32 :: (w3 ++ Char.ofNat 32 :: w4))) := by kernel_rfl
theorem behind : behindMainWord (wordsSigns Try.prog.initOrder.toList) = w3 :: wordsSigns w4 := by
  rw [signs0, String.toList_ofList, wordsSigns_word w1 _ (by kernel_rfl), wordsSigns_word w2 _ (by kernel_rfl), wordsSigns_word w3 _ (by kernel_rfl)]
  unfold behindMainWord
  dsimp only
  rw [if_pos (by kernel_rfl)]
theorem strip_cut (R : List (List Char)) : stripLifts liftWords (w3 :: R) = ([], w3 :: R) := by kernel_rfl
theorem mayEnter_of (P : Program) (R : List (List Char)) (h : behindMainWord (wordsSigns P.initOrder.toList) = w3 :: R) (h1 : P.laysLater = false) (h2 : P.bearsReflect = false) (h3 : P.doorFits [] = true) : P.mayEnter = true := by
  unfold Program.mayEnter
  rw [h]
  dsimp only
  rw [strip_cut, h1, h2, h3]
  kernel_rfl
theorem liftsFinal_of (P : Program) (R : List (List Char)) (h : behindMainWord (wordsSigns P.initOrder.toList) = w3 :: R) : P.liftsFinal = false := by
  unfold Program.liftsFinal Program.headLifts
  rw [h]
  dsimp only
  rw [strip_cut]
  kernel_rfl
theorem make_of (P : Program) (R : List (List Char)) (h : behindMainWord (wordsSigns P.initOrder.toList) = w3 :: R) : P.make = some .cut := by
  unfold Program.make
  rw [h]
  kernel_rfl
theorem mayEnter : Try.prog.mayEnter = true := mayEnter_of _ _ behind (by kernel_rfl) (by kernel_rfl) (by kernel_rfl)
theorem liftsFinal : Try.prog.liftsFinal = false := liftsFinal_of _ _ behind
theorem make : Try.prog.make = some .cut := make_of _ _ behind
end Go.Proofs.Ytgfjccegehnjcaa.Head

-- the row of the law FnExactSimplifySteps
namespace Go.Proofs.Ytgfjccegehnjcaa.fnExactSimplifySteps
open Go.ChangeShapes Go.WideShapes Go.ChangeAt Go.RowKit Go.Proofs.Ytgfjccegehnjcaa.Q Go.Proofs.YtgfjccegehnjcaaW.PrintWords
open Go.ChangeMaps (open_string shut_string)
set_option linter.unusedVariables false
theorem own : ownKnob Try.prog.godebug = none := by kernel_rfl
theorem laidOut : laidOutB Try.prog = true := by kernel_rfl
set_option maxHeartbeats 4000000 in
set_option maxRecDepth 100000 in
theorem lifted (os : Os) (started : os.Started) (H : Type) (enc : TypeId × Value → H) :
    ReturnsInHanded {} Try.checked os 16 .any (Rows.fnExactSimplifyStepsSpec.pre6 enc Try.prog Try.f16 Rows.fnExactSimplifyStepsRow.domain false) (Rows.fnExactSimplifyStepsSpec.post enc Try.prog Try.f16 false true false false) := by
  refine returnsInHanded_of_change_sized (C := Try.checked) own started (by kernel_rfl) Try.func16
    (ChangeSpec.witness6 (enc := enc) (C := Try.checked) false ⟨#[], #[.slice none 0 0], []⟩ 8 (by kernel_rfl) (by kernel_rfl) (by kernel_rfl) (by kernel_rfl)) ?_
  intro W base args ds gs before hval0 hW hcnd hsz0 _
  have hval : ∀ (j : Nat) t v, Try.f16.params[j]? = some t → args[j]? = some v → Value.okWide Try.prog W .any base t v := hval0
  have hW' := hW
  obtain ⟨p, q, hA0, hV, rfl, hfz, hnd⟩ := hW
  have hA : DataW.TrodAll enc Try.prog W 0 (fun _ => true) true Try.f16.params.toList args.toList ds p := hA0
  rw [Try.params16] at hA hval
  obtain ⟨v0, vs0, d0, ds0, p0, q0, hargs, rfl, rfl, h0, r0⟩ := trodAll_cons hA
  obtain ⟨rfl, rfl, rfl⟩ := trodAll_nil r0
  obtain rfl : args = #[v0] := by cases args; simp_all
  obtain ⟨rfl, rfl⟩ := trodVars_none hV
  have k0 := h0
  have lt0 : ∀ x ∈ p0, x.block < W.heap.size := by obtain ⟨m, hm⟩ := k0; exact DataW.trod_lt m _ _ _ hm
  obtain ⟨fuel0, hf0⟩ := h0
  obtain ⟨aa0, len0, cap0, rfl⟩ := okWide_slice Try.underlying60 (hval 0 60 v0 rfl rfl)
  obtain ⟨l0, ⟨A0, c0, hcs0, hc0, hr0⟩, hq0⟩ := (opens_slice Try.underlying60 (by kernel_rfl) og98) _ _ _ _ _ _ hf0
  have hcs0' : [Value.slice aa0 len0 cap0] = [.slice A0 l0.length c0] := hcs0
  injection hcs0' with hcs0' _
  injection hcs0' with e10 e20 e30
  subst e10 e20 e30
  clear hA0 hval0 hsz0
  obtain ⟨k, hh⟩ := Pure.FnExactSimplifySteps l0 hq0 hr0.2.1
  refine (Q.laws_FnExactSimplifySteps.calls k _ _ l0 true W hr0 hc0 hh).mono fun e W' hpost => ?_
  obtain ⟨he, bel0⟩ := hpost
  have bel : Below W.heap.size W W' := bel0
  subst he
  exact ⟨_, rfl, _, _, _, [], _, [], hW', trodAll_mk1 (shut_bool Try.underlying4 _), (trodAll_cons_mk (Below.trod laidOut (by kernel_rfl) (of_decide_eq_true (by kernel_rfl)) k0 bel lt0) trodAll_mk0), rfl, bel.frame _, fun h => by cases h⟩
set_option maxHeartbeats 4000000 in
theorem closed : joinedFacts Try.prog 16 Try.f16 Rows.fnExactSimplifyStepsSpec Rows.fnExactSimplifyStepsRow = true := by
  unfold joinedFacts
  rw [Head.mayEnter, Head.liftsFinal, Head.make]
  simp only [Bool.and_eq_true]
  repeat' apply And.intro
  all_goals first | exact True.intro | (as_aux_lemma => kernel_rfl)
set_option maxHeartbeats 4000000 in
theorem over : Rows.fnExactSimplifyStepsRow.holds Try.pinned (OpenSpec.ofChange Rows.fnExactSimplifyStepsSpec) :=
  OpenClaim.holds_of_wide 16 Try.f16 rfl rfl rfl rfl rfl rfl rfl ⟨rfl, rfl, rfl, rfl, rfl⟩ rfl rfl rfl rfl rfl (by kernel_rfl) Try.func16 closed
    (of_decide_eq_true (by kernel_rfl)) (by unfold Func.isWrapper; first | (rw [if_pos (by decide +kernel)]; kernel_rfl) | (rw [if_neg (by decide +kernel)]; exact ⟨rfl, rfl⟩))
    (fun os started H enc _ => lifted os started H enc)
theorem proved : Rows.FnExactSimplifyStepsSaid := over
#print axioms proved
end Go.Proofs.Ytgfjccegehnjcaa.fnExactSimplifySteps
namespace Go.Proofs.Ytgfjccegehnjcaa
/-- The row, under a short name, for the claim. -/
theorem fnExactSimplifySteps_holds : Rows.FnExactSimplifyStepsSaid := fnExactSimplifySteps.proved
end Go.Proofs.Ytgfjccegehnjcaa
