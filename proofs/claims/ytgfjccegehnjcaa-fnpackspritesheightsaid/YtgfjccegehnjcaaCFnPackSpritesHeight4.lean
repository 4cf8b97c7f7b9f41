/- A part of the proof that the statement FnPackSpritesHeightSaid holds, under no condition of its own: Atlases are not lower than they can be: the law FnPackSpritesHeight over numbers and lists alone. -/
import Derived.Test.YtgfjccegehnjcaaCFnPackSpritesHeight1
import Derived.Test.YtgfjccegehnjcaaCFnPackSpritesHeight3
import Derived.Deep.QuietTactic
import Derived.BigQuiet
import Derived.BigRegion
import Derived.Test.YtgfjccegehnjcaaRows
import Derived.JoinedOf
import Derived.KernelRfl
import Derived.WalkKit
import Derived.ProofKit
import Derived.OpenShut
import Derived.ShutString
import Derived.ChangeOld
import Derived.Below
import Derived.SizedLaws
import Derived.Test.YtgfjccegehnjcaaCFnPackSpritesHeightW1
namespace Go.Proofs.Ytgfjccegehnjcaa.Q
open Go.RowKit Go.Proofs.YtgfjccegehnjcaaW.PrintWords Go.Proofs.YtgfjccegehnjcaaW.PrintLast Go.Proofs.YtgfjccegehnjcaaW.PrintMore
attribute [local go_sem] max2_int min2_int max_two min_two max_three min_three max_four min_four
set_option linter.unusedVariables false
set_option linter.unusedSimpArgs false
attribute [local go_sem high] eqA50
def laws_equalBoxes.l0 : Nat → List (S50) → List (S50) → Int → Option (Bool)
  | 0, _, _, _ => none
  | k + 1, x0, x1, x5 => if x5 < (x0.length : Int) then (if 0 ≤ x5 then (if x5 < (x1.length : Int) then (if (!(((rd_T50 x0 x5).f0) == ((rd_T50 x1 x5).f0)) || (!(((rd_T50 x0 x5).f1) == ((rd_T50 x1 x5).f1)) || (!(((rd_T50 x0 x5).f2) == ((rd_T50 x1 x5).f2)) || (!(((rd_T50 x0 x5).f3) == ((rd_T50 x1 x5).f3)))))) = true then (some false) else (laws_equalBoxes.l0 k x0 x1 (wrap64 (x5 + 1)))) else (none)) else (none)) else (some true)
def laws_equalBoxes.f (k : Nat) (l0 : List (S50)) (l1 : List (S50)) : Option (Bool) := if (l0.length : Int) = (l1.length : Int) then (laws_equalBoxes.l0 k l0 l1 0) else (some false)
set_option maxHeartbeats 8000000 in
set_option maxRecDepth 100000 in
theorem laws_equalBoxes.calls (k : Nat) (A0 : Option Addr) (c0 : Nat) (l0 : List (S50)) (A1 : Option Addr) (c1 : Nat) (l1 : List (S50)) (r : Bool) (w : World) (hr0 : Kd.C k50 w A0 l0.length l0) (hc0 : l0.length ≤ c0) (hr1 : Kd.C k50 w A1 l1.length l1) (hc1 : l1.length ≤ c1) (h : laws_equalBoxes.f k l0 l1 = some r) :
    Calls Try.prog 36 #[.slice A0 l0.length c0, .slice A1 l1.length c1] w fun e w' => e = .returned (.bool r) ∧ Drawn0 w w' := by
  have hu50 := Try.underlying50
  have HR0 := Aside0.mk hr0
  have HC0 := Aside0.mk hc0
  clear hr0 hc0
  have HR1 := Aside0.mk hr1
  have HC1 := Aside0.mk hc1
  clear hr1 hc1
  have H : (if (l0.length : Int) = (l1.length : Int) then (laws_equalBoxes.l0 k l0 l1 0) else (some false)) = some r := h
  clear h
  by_cases c3 : (l0.length : Int) = (l1.length : Int)
  · rw [if_pos c3] at H
    have c3b0 : ((l0.length : Int) == (l1.length : Int)) = true := beq_iff_eq.mpr c3
    have c3b1 : ((l0.length : Int) != (l1.length : Int)) = false := bne_eq_false_iff_eq.mpr c3
    have c3b2 : (l0.length == l1.length) = true := by first | simpa using c3 | (simp at c3 ⊢; omega)
    clear c3
    have H' := Aside0.mk H
    clear H
    go_enter Try.func36, Try.ntmps36
    go_wp2
    repeat (go_quiet (fail); try go_wp2)
    go_loopg [5] k (fun kq v5 w' => ∃ (x5_1 : Int), v5 = .int .i64 x5_1 ∧ Aside0 (laws_equalBoxes.l0 kq l0 l1 x5_1 = some r) ∧ Aside0 (kq ≤ k) ∧ Drawn0 w w')
    case atStart => exact ⟨(0), (by first | rfl | (simp; done) | (simp [*]; done)), H', ⟨Nat.le_refl _⟩, by repeat (first | exact Drawn0.refl _ | apply Drawn0.step)⟩
    case round =>
      clear H'
      try clear c1
      try clear p2
      try clear c3
      try clear c3b0
      try clear c3b1
      try clear c3b2
      obtain ⟨x5_1, rfl, HA, HK1, ⟨m1, rfl⟩⟩ := hrel
      cases gk with
      | zero => exact absurd HA.out (by simp [laws_equalBoxes.l0])
      | succ k1 =>
        have H := HA.out
        clear HA
        simp only [laws_equalBoxes.l0] at H
        by_cases c4 : x5_1 < (l0.length : Int)
        · rw [if_pos c4] at H
          have c4b0 : decide (x5_1 < (l0.length : Int)) = true := decide_eq_true c4
          clear c4
          by_cases c5 : 0 ≤ x5_1
          · rw [if_pos c5] at H
            have c5b0 : decide (0 ≤ x5_1) = true := decide_eq_true c5
            clear c5
            by_cases c6 : x5_1 < (l1.length : Int)
            · rw [if_pos c6] at H
              have c6b0 : decide (x5_1 < (l1.length : Int)) = true := decide_eq_true c6
              clear c6
              by_cases c7 : (!(((rd_T50 l0 x5_1).f0) == ((rd_T50 l1 x5_1).f0)) || (!(((rd_T50 l0 x5_1).f1) == ((rd_T50 l1 x5_1).f1)) || (!(((rd_T50 l0 x5_1).f2) == ((rd_T50 l1 x5_1).f2)) || (!(((rd_T50 l0 x5_1).f3) == ((rd_T50 l1 x5_1).f3)))))) = true
              · rw [if_pos c7] at H
                have c7b0 : (!(((rd_T50 l0 x5_1).f0) == ((rd_T50 l1 x5_1).f0)) || (!(((rd_T50 l0 x5_1).f1) == ((rd_T50 l1 x5_1).f1)) || (!(((rd_T50 l0 x5_1).f2) == ((rd_T50 l1 x5_1).f2)) || (!(((rd_T50 l0 x5_1).f3) == ((rd_T50 l1 x5_1).f3)))))) = true := c7
                clear c7
                obtain rfl := Option.some.inj H
                have p37001 : 0 ≤ (x5_1 : Int) := of_decide_eq_true (by first | (with_reducible assumption) | assumption)
                have q37001 : x5_1 < (l0.length : Int) := of_decide_eq_true (by first | (with_reducible assumption) | assumption)
                obtain ⟨ad37001, e37001, hx37001_0, hx37001_1, hx37001_2, hx37001_3⟩ := at_T50 HR0.out x5_1 p37001 q37001
                cases e37001
                replace p37001 := eq_true p37001
                replace q37001 := eq_true q37001
                have p37002 : 0 ≤ (x5_1 : Int) := of_decide_eq_true (by first | (with_reducible assumption) | assumption)
                have q37002 : x5_1 < (l1.length : Int) := of_decide_eq_true (by first | (with_reducible assumption) | assumption)
                obtain ⟨ad37002, e37002, hx37002_0, hx37002_1, hx37002_2, hx37002_3⟩ := at_T50 HR1.out x5_1 p37002 q37002
                cases e37002
                replace p37002 := eq_true p37002
                replace q37002 := eq_true q37002
                go_wp2
                repeat (go_quiet (fail); try go_wp2)
                go_ret
                exact ⟨by first | rfl | (simp; done) | (simp [*]; done), by repeat (first | exact Drawn0.refl _ | apply Drawn0.step)⟩
              · rw [if_neg c7] at H
                have c7b0 : (!(((rd_T50 l0 x5_1).f0) == ((rd_T50 l1 x5_1).f0)) || (!(((rd_T50 l0 x5_1).f1) == ((rd_T50 l1 x5_1).f1)) || (!(((rd_T50 l0 x5_1).f2) == ((rd_T50 l1 x5_1).f2)) || (!(((rd_T50 l0 x5_1).f3) == ((rd_T50 l1 x5_1).f3)))))) = false := by simpa using c7
                clear c7
                have H' := Aside0.mk H
                clear H
                have p37001 : 0 ≤ (x5_1 : Int) := of_decide_eq_true (by first | (with_reducible assumption) | assumption)
                have q37001 : x5_1 < (l0.length : Int) := of_decide_eq_true (by first | (with_reducible assumption) | assumption)
                obtain ⟨ad37001, e37001, hx37001_0, hx37001_1, hx37001_2, hx37001_3⟩ := at_T50 HR0.out x5_1 p37001 q37001
                cases e37001
                replace p37001 := eq_true p37001
                replace q37001 := eq_true q37001
                have p37002 : 0 ≤ (x5_1 : Int) := of_decide_eq_true (by first | (with_reducible assumption) | assumption)
                have q37002 : x5_1 < (l1.length : Int) := of_decide_eq_true (by first | (with_reducible assumption) | assumption)
                obtain ⟨ad37002, e37002, hx37002_0, hx37002_1, hx37002_2, hx37002_3⟩ := at_T50 HR1.out x5_1 p37002 q37002
                cases e37002
                replace p37002 := eq_true p37002
                replace q37002 := eq_true q37002
                go_wp2
                repeat (go_quiet (fail); try go_wp2)
                go_roundg k1
                case measure => have := HK1.out; omega
                case rel => exact ⟨(wrap64 (x5_1 + 1)), (by first | rfl | (simp; done) | (simp [*]; done)), H', ⟨by have := HK1.out; omega⟩, by repeat (first | exact Drawn0.refl _ | apply Drawn0.step)⟩
            · rw [if_neg c6] at H
              exact absurd H (by simp)
          · rw [if_neg c5] at H
            exact absurd H (by simp)
        · rw [if_neg c4] at H
          have c4b0 : decide (x5_1 < (l0.length : Int)) = false := decide_eq_false c4
          clear c4
          obtain rfl := Option.some.inj H
          go_wp2
          repeat (go_quiet (fail); try go_wp2)
          go_ret
          exact ⟨by first | rfl | (simp; done) | (simp [*]; done), by repeat (first | exact Drawn0.refl _ | apply Drawn0.step)⟩
  · rw [if_neg c3] at H
    have c3b0 : ((l0.length : Int) == (l1.length : Int)) = false := beq_eq_false_iff_ne.mpr c3
    have c3b1 : ((l0.length : Int) != (l1.length : Int)) = true := bne_iff_ne.mpr c3
    have c3b2 : (l0.length == l1.length) = false := by first | simpa using c3 | (simp at c3 ⊢; omega)
    obtain rfl := Option.some.inj H
    go_enter Try.func36, Try.ntmps36
    go_wp2
    repeat (go_quiet (fail); try go_wp2)
    go_ret
    exact ⟨by first | rfl | (simp; done) | (simp [*]; done), by repeat (first | exact Drawn0.refl _ | apply Drawn0.step)⟩

end Go.Proofs.Ytgfjccegehnjcaa.Q

/- Plain words: numbers that do not wrap, elements of lists, rounds that are enough. -/
namespace Go.Proofs.Ytgfjccegehnjcaa.Pure
open Go.RowKit Go.Proofs.Ytgfjccegehnjcaa.Q Go.Proofs.YtgfjccegehnjcaaW.PrintWords Go.Proofs.YtgfjccegehnjcaaW.PrintLast Go.Proofs.YtgfjccegehnjcaaW.PrintMore
set_option linter.unusedVariables false
set_option linter.unusedSimpArgs false

theorem w64 {x : Int} (h1 : -9223372036854775808 ≤ x) (h2 : x ≤ 9223372036854775807) : wrap64 x = x := by unfold wrap64; omega
theorem w64n (n : Nat) (h : n < 9223372036854775807) : wrap64 ((n : Int) + 1) = ((n + 1 : Nat) : Int) := by unfold wrap64; omega
theorem rd_nat (l : List Int) (i : Nat) (h : i < l.length) : rd l (i : Int) = l[i] := by simp [rd, h]
theorem tdiv_nn (a b : Int) (h : 0 ≤ a) : Int.tdiv a b = a / b := Int.tdiv_eq_ediv_of_nonneg h
theorem tmod_nn (a b : Int) (h : 0 ≤ a) : Int.tmod a b = a % b := Int.tmod_eq_emod_of_nonneg h
/-- From K rounds on. -/
theorem ev_of {α : Type} {g : Nat → Option α} {r : α} (K : Nat) (h : ∀ k, K < k → g k = some r) : Ev g r := ⟨K + 1, fun k hk => h k (by omega)⟩
theorem ev_const {α : Type} {o : Option α} {r : α} (h : o = some r) : Ev (fun _ => o) r := ⟨0, fun _ _ => h⟩
theorem ev_bind {α β : Type} {g : Nat → Option α} {f : Nat → α → Option β} {a : α} {r : β} (h : Ev g a) (k : Ev (fun n => f n a) r) : Ev (fun n => (g n).bind (f n)) r := Ev.bind h k
theorem ev_now {α β : Type} {o : Option α} {f : Nat → α → Option β} {a : α} {r : β} (h : o = some a) (k : Ev (fun n => f n a) r) : Ev (fun n => o.bind (f n)) r := Ev.bind (ev_const h) k
theorem ev_pos {α : Type} {c : Prop} [Decidable c] {f g : Nat → Option α} {r : α} (h : c) (k : Ev f r) : Ev (fun n => if c then f n else g n) r := by
  simpa [h] using k
theorem ev_neg {α : Type} {c : Prop} [Decidable c] {f g : Nat → Option α} {r : α} (h : ¬ c) (k : Ev g r) : Ev (fun n => if c then f n else g n) r := by
  simpa [h] using k
theorem mx_def (a b : Int) : mx a b = max a b := by unfold mx; omega
/-- A loop that counts up to n: what it answers from i on. -/
theorem loop_up {σ ρ : Type} (K n : Nat) (L : Nat → Nat → σ → Option ρ) (Inv : Nat → σ → Prop) (F : Nat → σ → ρ)
    (step : ∀ i s k, i < n → Inv i s → K ≤ k → (L (k + 1) i s = some (F i s)) ∨ ∃ s', L (k + 1) i s = L k (i + 1) s' ∧ Inv (i + 1) s' ∧ F (i + 1) s' = F i s)
    (last : ∀ s k, Inv n s → K ≤ k → L (k + 1) n s = some (F n s)) :
    ∀ d i s k, i + d = n → Inv i s → K + d < k → L k i s = some (F i s) := by
  intro d
  induction d with
  | zero =>
    intro i s k hi hinv hk
    obtain ⟨k, rfl⟩ : ∃ m, k = m + 1 := ⟨k - 1, by omega⟩
    have : i = n := by omega
    subst this
    exact last s k hinv (by omega)
  | succ d ih =>
    intro i s k hi hinv hk
    obtain ⟨k, rfl⟩ : ∃ m, k = m + 1 := ⟨k - 1, by omega⟩
    rcases step i s k (by omega) hinv (by omega) with h | ⟨s', h, hi', hF⟩
    · exact h
    · rw [h, ih (i + 1) s' k (by omega) hi' (by omega), hF]
/-- The same, from some number of rounds on: for loops in loops. -/
theorem ev_up {σ ρ : Type} (n : Nat) (L : Nat → Nat → σ → Option ρ) (Inv : Nat → σ → Prop) (F : Nat → σ → ρ)
    (step : ∀ i s, i < n → Inv i s → Ev (fun k => L k i s) (F i s) ∨ ∃ s', (∀ k, L (k + 1) i s = L k (i + 1) s') ∧ Inv (i + 1) s' ∧ F (i + 1) s' = F i s)
    (last : ∀ s, Inv n s → Ev (fun k => L k n s) (F n s)) :
    ∀ d i s, i + d = n → Inv i s → Ev (fun k => L k i s) (F i s) := by
  intro d
  induction d with
  | zero =>
    intro i s hi hinv
    have : i = n := by omega
    subst this
    exact last s hinv
  | succ d ih =>
    intro i s hi hinv
    rcases step i s (by omega) hinv with h | ⟨s', h, hi', hF⟩
    · exact h
    · rw [← hF]
      exact Ev.step h (ih (i + 1) s' (by omega) hi')
theorem take_set {α : Type} (s : List α) (i : Nat) (c : α) (h : i < s.length) : (s.set i c).take (i + 1) = s.take i ++ [c] := by
  rw [List.take_succ_eq_append_getElem (by simpa using h), List.take_set_of_le (Nat.le_refl i)]
  simp

/- Copies of a list of Size: they are the list. -/

abbrev Size := S42
theorem rdSize (l : List Size) (i : Nat) (h : i < l.length) : rd_T42 l (i : Int) = l[i] := by simp [rd_T42, h]

/- Copies of a list of Box: they are the list. -/

abbrev Box := S50
theorem rdBox (l : List Box) (i : Nat) (h : i < l.length) : rd_T50 l (i : Int) = l[i] := by simp [rd_T50, h]

/- Sprites put into shelves, over lists alone: the order of their heights, and the steps of the packing. -/

def hOf (l : List Size) (i : Int) : Int := (rd_T42 l i).f1
/-- Where i goes among those before it: behind all that are not lower. -/
def insPos (H : Int → Int) (o : List Int) (i : Int) : Nat → Nat
  | 0 => 0
  | a + 1 => if H (rd o (a : Int)) < H i then insPos H o i a else a + 1
def insAt (o : List Int) (i : Int) (a : Nat) : List Int := (o.take a ++ [i]) ++ o.drop a
/-- The first i numbers, highest first. -/
def tall (H : Int → Int) : Nat → List Int
  | 0 => []
  | i + 1 => insAt (tall H i) (i : Int) (insPos H (tall H i) (i : Int) i)
def seqI (a n : Nat) : List Int := (List.range' a (n - a)).map (fun (k : Nat) => (k : Int))
theorem insPos_le (H : Int → Int) (o : List Int) (i : Int) (a : Nat) : insPos H o i a ≤ a := by
  induction a with
  | zero => exact Nat.le_refl _
  | succ a ih => unfold insPos; split <;> omega
theorem insAt_len (o : List Int) (i : Int) (a : Nat) : (insAt o i a).length = o.length + 1 := by
  unfold insAt
  simp only [List.length_append, List.length_take, List.length_drop, List.length_singleton]
  omega
theorem tall_len (H : Int → Int) (i : Nat) : (tall H i).length = i := by
  induction i with
  | zero => rfl
  | succ i ih => unfold tall; rw [insAt_len, ih]
theorem insAt_mem (o : List Int) (i : Int) (a : Nat) (x : Int) : x ∈ insAt o i a ↔ x = i ∨ x ∈ o := by
  unfold insAt
  constructor
  · intro h
    rw [List.mem_append, List.mem_append, List.mem_singleton] at h
    rcases h with (h | h) | h
    · exact .inr (List.mem_of_mem_take h)
    · exact .inl h
    · exact .inr (List.mem_of_mem_drop h)
  · intro h
    rw [List.mem_append, List.mem_append, List.mem_singleton]
    rcases h with h | h
    · exact .inl (.inr h)
    · rw [← List.take_append_drop a o, List.mem_append] at h
      rcases h with h | h
      · exact .inl (.inl h)
      · exact .inr h
theorem tall_mem (H : Int → Int) (i : Nat) (x : Int) : x ∈ tall H i → 0 ≤ x ∧ x < (i : Int) := by
  induction i with
  | zero => intro h; simp [tall] at h
  | succ i ih =>
    unfold tall
    rw [insAt_mem]
    rintro (h | h)
    · omega
    · have := ih h; omega
theorem seqI_len (a n : Nat) : (seqI a n).length = n - a := by simp [seqI]
theorem seqI_nil (n : Nat) : seqI n n = [] := by simp [seqI]
theorem seqI_cons {a n : Nat} (h : a < n) : seqI a n = (a : Int) :: seqI (a + 1) n := by
  unfold seqI
  rw [show n - a = (n - (a + 1)) + 1 by omega, List.range'_succ, List.map_cons]
theorem seqI_snoc (n : Nat) : seqI 0 (n + 1) = seqI 0 n ++ [(n : Int)] := by
  unfold seqI
  rw [Nat.sub_zero, Nat.sub_zero, List.range'_concat, List.map_append]
  simp
/-- The row within the sorting: i on its way down, at a. -/
def midS (H : Int → Int) (n i a : Nat) : List Int := insAt (tall H i) (i : Int) a ++ seqI (i + 1) n
theorem midS_len (H : Int → Int) {n i : Nat} (a : Nat) (h : i < n) : (midS H n i a).length = n := by
  unfold midS
  rw [List.length_append, insAt_len, tall_len, seqI_len]; omega
theorem midS_start (H : Int → Int) {n i : Nat} (h : i < n) : tall H i ++ seqI i n = midS H n i i := by
  unfold midS insAt
  rw [seqI_cons h, List.take_of_length_le (by rw [tall_len]; omega), List.drop_of_length_le (by rw [tall_len]; omega)]
  simp
theorem midS_end (H : Int → Int) {n i a : Nat} (h : insPos H (tall H i) (i : Int) i = a) : midS H n i a = tall H (i + 1) ++ seqI (i + 1) n := by
  unfold midS
  rw [← h]
  rfl
theorem midS_at (H : Int → Int) {n i a : Nat} (hi : i < n) (ha : a ≤ i) : rd (midS H n i a) (a : Int) = (i : Int) := by
  have ht := tall_len H i
  unfold midS insAt
  unfold rd
  rw [Int.toNat_natCast, List.getD_eq_getElem?_getD, List.append_assoc, List.append_assoc, List.getElem?_append_right (by rw [List.length_take]; omega), List.length_take, show a - min a (tall H i).length = 0 by omega]
  rfl
theorem midS_low (H : Int → Int) {n i a : Nat} (hi : i < n) (ha : a < i) : rd (midS H n i (a + 1)) (a : Int) = rd (tall H i) (a : Int) := by
  have ht := tall_len H i
  unfold midS insAt
  unfold rd
  rw [Int.toNat_natCast, List.getD_eq_getElem?_getD, List.getD_eq_getElem?_getD, List.append_assoc, List.append_assoc, List.getElem?_append_left (by rw [List.length_take]; omega), List.getElem?_take_of_lt (by omega)]
theorem midS_swap (H : Int → Int) {n i a : Nat} (hi : i < n) (ha : a < i) : ((midS H n i (a + 1)).set (a + 1) (rd (tall H i) (a : Int))).set a (i : Int) = midS H n i a := by
  have ht := tall_len H i
  have hd : (tall H i).drop a = rd (tall H i) (a : Int) :: (tall H i).drop (a + 1) := by
    rw [List.drop_eq_getElem_cons (show a < (tall H i).length by omega), rd_nat _ a (by omega)]
  have htk : (tall H i).take (a + 1) = (tall H i).take a ++ [rd (tall H i) (a : Int)] := by
    rw [List.take_succ_eq_append_getElem (show a < (tall H i).length by omega), rd_nat _ a (by omega)]
  have hl : ((tall H i).take a).length = a := by rw [List.length_take]; omega
  unfold midS insAt
  rw [hd, htk]
  generalize rd (tall H i) (a : Int) = x
  generalize (tall H i).take a = L at hl
  generalize (tall H i).drop (a + 1) = R
  generalize seqI (i + 1) n = S
  subst hl
  simp only [List.append_assoc, List.cons_append, List.nil_append]
  rw [List.set_append_right _ _ (by omega), Nat.add_sub_cancel_left, List.set_append_right _ _ (by omega), Nat.sub_self]
  rfl
/-! the packing -/
def pkP (w W : Int) (b : Box) : Bool := decide (wrap64 (b.f2 + W) ≤ w)
/-- What stands within the packing: the boxes, the shelves (Y: the top, Width: how far it is filled), the height. -/
abbrev Pk := List Box × List Box × Int
def pkStep (l : List Size) (w : Int) (s : Pk) (o : Int) : Pk :=
  if idxF (pkP w (rd_T42 l o).f0) s.2.1 < 0 then
    (s.1.set o.toNat ⟨0, s.2.2, (rd_T42 l o).f0, (rd_T42 l o).f1⟩, s.2.1 ++ [⟨0, s.2.2, wrap64 (0 + (rd_T42 l o).f0), 0⟩], wrap64 (s.2.2 + (rd_T42 l o).f1))
  else
    (s.1.set o.toNat ⟨(rd_T50 s.2.1 (idxF (pkP w (rd_T42 l o).f0) s.2.1)).f2, (rd_T50 s.2.1 (idxF (pkP w (rd_T42 l o).f0) s.2.1)).f1, (rd_T42 l o).f0, (rd_T42 l o).f1⟩,
      s.2.1.set (idxF (pkP w (rd_T42 l o).f0) s.2.1).toNat ⟨(rd_T50 s.2.1 (idxF (pkP w (rd_T42 l o).f0) s.2.1)).f0, (rd_T50 s.2.1 (idxF (pkP w (rd_T42 l o).f0) s.2.1)).f1, wrap64 ((rd_T50 s.2.1 (idxF (pkP w (rd_T42 l o).f0) s.2.1)).f2 + (rd_T42 l o).f0), (rd_T50 s.2.1 (idxF (pkP w (rd_T42 l o).f0) s.2.1)).f3⟩,
      s.2.2)
def pkRun (l : List Size) (w : Int) (n i : Nat) : Pk := ((tall (hOf l) n).take i).foldl (pkStep l w) (List.replicate n z50, [], 0)
theorem pkRun_succ (l : List Size) (w : Int) {n i : Nat} (h : i < n) : pkRun l w n (i + 1) = pkStep l w (pkRun l w n i) (rd (tall (hOf l) n) (i : Int)) := by
  have ht := tall_len (hOf l) n
  unfold pkRun
  rw [List.take_succ_eq_append_getElem (show i < (tall (hOf l) n).length by omega), List.foldl_append, rd_nat _ i (by omega)]
  rfl
theorem pkStep_len (l : List Size) (w : Int) (s : Pk) (o : Int) : (pkStep l w s o).1.length = s.1.length ∧ s.2.1.length ≤ (pkStep l w s o).2.1.length ∧ (pkStep l w s o).2.1.length ≤ s.2.1.length + 1 := by
  unfold pkStep
  split
  · simp
  · simp
theorem pkRun_len (l : List Size) (w : Int) (n i : Nat) (h : i ≤ n) : (pkRun l w n i).1.length = n ∧ (pkRun l w n i).2.1.length ≤ i := by
  induction i with
  | zero => simp [pkRun]
  | succ i ih =>
    have h1 := ih (by omega)
    have h2 := pkStep_len l w (pkRun l w n i) (rd (tall (hOf l) n) (i : Int))
    rw [pkRun_succ l w (by omega)]
    omega
theorem tall_rd (H : Int → Int) (n i : Nat) (h : i < n) : 0 ≤ rd (tall H n) (i : Int) ∧ rd (tall H n) (i : Int) < (n : Int) := by
  have ht := tall_len H n
  rw [rd_nat _ i (by omega)]
  exact tall_mem H n _ (List.getElem_mem _)

/- The reader of draws: whatever the code's bytes are, it answers, in range. -/

/-- What a reader reads from: at most 2000 bytes. -/
def Bytes (b : List Int) : Prop := b.length ≤ 2000 ∧ ∀ x ∈ b, 0 ≤ x ∧ x ≤ 255
theorem Bytes.rd_ {b : List Int} (h : Bytes b) (i : Int) : 0 ≤ rd b i ∧ rd b i ≤ 255 := by
  unfold rd
  by_cases c : i.toNat < b.length
  · rw [List.getD_eq_getElem?_getD, List.getElem?_eq_getElem c]; exact h.2 _ (List.getElem_mem c)
  · rw [List.getD_eq_getElem?_getD, List.getElem?_eq_none (by omega)]; simp
theorem xor_nn (a b : Int) (ha : 0 ≤ a) (ha' : a < 4611686018427387904) (hb : 0 ≤ b) (hb' : b < 4611686018427387904) : 0 ≤ Go.bits .xor .i64 a b := by
  obtain ⟨a, rfl⟩ := Int.eq_ofNat_of_zero_le ha
  obtain ⟨b, rfl⟩ := Int.eq_ofNat_of_zero_le hb
  have ha2 : a < 2 ^ 62 := by have : (2 : Nat) ^ 62 = 4611686018427387904 := by decide +kernel
                              omega
  have hb2 : b < 2 ^ 62 := by have : (2 : Nat) ^ 62 = 4611686018427387904 := by decide +kernel
                              omega
  have e64 : IntKind.bits .i64 = 64 := rfl
  have hx := Nat.xor_lt_two_pow ha2 hb2
  have h62 : (2 : Nat) ^ 62 = 4611686018427387904 := by decide +kernel
  have h64 : (2 : Nat) ^ 64 = 18446744073709551616 := by decide +kernel
  simp only [Go.bits, BitVec.ofInt_natCast, BitVec.toNat_xor, BitVec.toNat_ofNat, e64]
  rw [Nat.mod_eq_of_lt (by omega), Nat.mod_eq_of_lt (by omega), IntKind.wrap_i64]
  generalize a ^^^ b = z at *
  omega
theorem tmod_range (x n : Int) (hx : 0 ≤ x) (hn : 1 ≤ n) : 0 ≤ Int.tmod x n ∧ Int.tmod x n < n := by
  rw [tmod_nn _ _ hx]
  exact ⟨Int.emod_nonneg _ (by omega), Int.emod_lt_of_pos _ (by omega)⟩
theorem pick_at (b : List Int) (p n : Int) (hb : Bytes b) (hp0 : 0 ≤ p) (hp : p ≤ 1000000000000) :
    ∃ v, (∀ k, 0 < k → spec_reader_pick.f k b p n = some (v, p + 1)) ∧ 0 ≤ v ∧ (1 ≤ n → v < n) ∧ (n < 1 → v = 0) := by
  by_cases hn : n < 1
  · refine ⟨0, fun k hk => ?_, by omega, by omega, fun _ => rfl⟩
    obtain ⟨k, rfl⟩ : ∃ m, k = m + 1 := ⟨k - 1, by omega⟩
    unfold spec_reader_pick.f
    rw [if_pos hn, w64 (by omega) (by omega)]
    simp only [spec_reader_pick.j0, if_true]
  by_cases he : b.length = 0
  · refine ⟨0, fun k hk => ?_, by omega, by omega, fun _ => rfl⟩
    obtain ⟨k, rfl⟩ : ∃ m, k = m + 1 := ⟨k - 1, by omega⟩
    unfold spec_reader_pick.f
    rw [if_neg hn, w64 (by omega) (by omega)]
    simp only [spec_reader_pick.j0, he]; simp
  have hlen := hb.1
  by_cases hlt : p < (b.length : Int)
  · have hr := hb.rd_ p
    have ht := tmod_range (rd b p) n hr.1 (by omega)
    refine ⟨Int.tmod (rd b p) n, fun k hk => ?_, ht.1, fun _ => ht.2, by omega⟩
    obtain ⟨k, rfl⟩ : ∃ m, k = m + 1 := ⟨k - 1, by omega⟩
    unfold spec_reader_pick.f
    rw [if_neg hn, w64 (x := p + 1) (by omega) (by omega)]
    simp only [spec_reader_pick.j0]
    rw [if_neg (by simp only [beq_iff_eq]; omega), w64 (x := p + 1 - 1) (by omega) (by omega), show p + 1 - 1 = p by omega, if_pos hlt, if_pos hp0, if_neg (by omega), w64 (x := rd b p) (by omega) (by omega)]
  · have h1 := tmod_range p (b.length : Int) hp0 (by omega)
    have h2 := tmod_range (p * 7 + 3) (b.length : Int) (by omega) (by omega)
    have r1 := hb.rd_ (Int.tmod p (b.length : Int))
    have r2 := hb.rd_ (Int.tmod (p * 7 + 3) (b.length : Int))
    have hd : 0 ≤ Int.tdiv p (b.length : Int) ∧ Int.tdiv p (b.length : Int) ≤ p := by
      rw [tdiv_nn _ _ hp0]
      exact ⟨Int.ediv_nonneg hp0 (by omega), Int.ediv_le_self _ hp0⟩
    generalize h1e : Int.tmod p (b.length : Int) = t1 at *
    generalize h2e : Int.tmod (p * 7 + 3) (b.length : Int) = t2 at *
    generalize hde : Int.tdiv p (b.length : Int) = d at *
    generalize hr1e : rd b t1 = x1 at *
    generalize hr2e : rd b t2 = x2 at *
    have hx := xor_nn (x1 * 131 + x2 * 1117 + p * 29 + d * 53) ((x1 * 131 + x2 * 1117 + p * 29 + d * 53) / 64) (by omega) (by omega) (by omega) (by omega)
    have ht := tmod_range _ n hx (by omega)
    refine ⟨Int.tmod (Go.bits .xor .i64 (x1 * 131 + x2 * 1117 + p * 29 + d * 53) ((x1 * 131 + x2 * 1117 + p * 29 + d * 53) / 64)) n, fun k hk => ?_, ht.1, fun _ => ht.2, by omega⟩
    obtain ⟨k, rfl⟩ : ∃ m, k = m + 1 := ⟨k - 1, by omega⟩
    unfold spec_reader_pick.f
    rw [if_neg hn, w64 (x := p + 1) (by omega) (by omega)]
    simp only [spec_reader_pick.j0]
    rw [if_neg (by simp only [beq_iff_eq]; omega), w64 (x := p + 1 - 1) (by omega) (by omega), show p + 1 - 1 = p by omega, if_neg hlt, if_neg (by omega),
      w64 (x := p * 7) (by omega) (by omega), w64 (x := p * 7 + 3) (by omega) (by omega), h1e, h2e, hde, hr1e, hr2e, if_pos (by omega), if_pos (by omega), if_pos (by omega), if_pos (by omega), if_neg (by omega),
      w64 (x := x1) (by omega) (by omega), w64 (x := x2) (by omega) (by omega), w64 (x := d) (by omega) (by omega), w64 (x := x1 * 131) (by omega) (by omega), w64 (x := x2 * 1117) (by omega) (by omega), w64 (x := p * 29) (by omega) (by omega), w64 (x := d * 53) (by omega) (by omega),
      w64 (x := x1 * 131 + x2 * 1117) (by omega) (by omega), w64 (x := x1 * 131 + x2 * 1117 + p * 29) (by omega) (by omega), w64 (x := x1 * 131 + x2 * 1117 + p * 29 + d * 53) (by omega) (by omega), tdiv_nn _ 64 (by omega),
      w64 (x := (x1 * 131 + x2 * 1117 + p * 29 + d * 53) / 64) (by omega) (by omega)]
theorem one_at (b : List Int) (p : Int) (l : List Int) (hl : 0 < l.length) (hl' : l.length ≤ 1000) (hb : Bytes b) (hp0 : 0 ≤ p) (hp : p ≤ 1000000000000) :
    ∃ v, (∀ k, 0 < k → spec_reader_one.f k b p l = some (v, p + 1)) ∧ v ∈ l := by
  obtain ⟨v, hv, h0, h1, _⟩ := pick_at b p (l.length : Int) hb hp0 hp
  have h1' := h1 (by omega)
  obtain ⟨v, rfl⟩ := Int.eq_ofNat_of_zero_le h0
  refine ⟨l[v]'(by omega), fun k hk => ?_, List.getElem_mem _⟩
  unfold spec_reader_one.f
  rw [hv k hk]
  simp only [Option.bind_some]
  rw [if_pos (by omega), if_pos (by omega), rd_nat l v (by omega)]
theorem newReader_at (l : List Int) (h : ∀ x ∈ l, 0 ≤ x ∧ x ≤ 255) : ∃ b, spec_newReader.f l = some (b, 0) ∧ Bytes b := by
  unfold spec_newReader.f
  by_cases c : (l.length : Int) > 2000
  · rw [if_pos c, if_pos (by omega)]
    exact ⟨_, rfl, by rw [List.length_take]; omega, fun x hx => h x (List.mem_of_mem_take hx)⟩
  · rw [if_neg c]
    exact ⟨_, rfl, by omega, h⟩
/-- What a law is told of its code: bytes. -/
theorem code_bytes (l : List Int) (h : ∀ x ∈ l, (Lit.int .u8 x).wf = true) : ∀ x ∈ l, 0 ≤ x ∧ x ≤ 255 := by
  intro x hx
  have := h x hx
  simp only [Lit.wf, Bool.and_eq_true, decide_eq_true_eq] at this
  have e1 : IntKind.min .u8 = 0 := by decide
  have e2 : IntKind.max .u8 = 255 := by decide
  omega

/- The least height of an atlas, as the program and the reference have it; the sprites that are drawn. -/

theorem inRangeL (n a b : Int) : spec_inRange.f n a b = some (decide (a ≤ n) && decide (n ≤ b)) := by
  unfold spec_inRange.f; by_cases h : a ≤ n <;> simp [h]
def okSprite (w : Int) (s : Size) : Bool := decide (1 ≤ s.f0) && decide (s.f0 ≤ w) && decide (1 ≤ s.f1) && decide (s.f1 ≤ 16)
theorem okSprite_iff (w : Int) (s : Size) : okSprite w s = true ↔ 1 ≤ s.f0 ∧ s.f0 ≤ w ∧ 1 ≤ s.f1 ∧ s.f1 ≤ 16 := by simp [okSprite, and_assoc]
def spritesOK (l : List Size) (w : Int) : Bool := l.all (okSprite w) && (decide (1 ≤ w) && decide (w ≤ 64)) && decide ((l.length : Int) ≤ 12)
theorem spritesOK_iff (l : List Size) (w : Int) : spritesOK l w = true ↔ (∀ s ∈ l, 1 ≤ s.f0 ∧ s.f0 ≤ w ∧ 1 ≤ s.f1 ∧ s.f1 ≤ 16) ∧ (1 ≤ w ∧ w ≤ 64) ∧ l.length ≤ 12 := by
  simp only [spritesOK, Bool.and_eq_true, List.all_eq_true, okSprite_iff, decide_eq_true_eq, and_assoc]
  constructor
  · rintro ⟨a, b, c, d⟩; exact ⟨a, b, c, by omega⟩
  · rintro ⟨a, b, c, d⟩; exact ⟨a, b, c, by omega⟩
theorem areSprites_eq (l : List Size) (w : Int) : impl_areSprites.f l w = some (spritesOK l w) := by
  unfold impl_areSprites.f
  congr 1
  rw [Bool.eq_iff_iff, spritesOK_iff]
  simp only [Bool.and_eq_true, decide_eq_true_eq, Bool.not_eq_true', List.any_eq_false, badSprite, Bool.or_eq_true, Bool.not_eq_true', Bool.and_eq_false_iff, decide_eq_false_iff_not]
  constructor
  · rintro ⟨⟨⟨a, b⟩, c⟩, d⟩
    refine ⟨fun s hs => ?_, ⟨b, c⟩, a⟩
    have := d s hs
    omega
  · rintro ⟨a, ⟨b, c⟩, d⟩
    refine ⟨⟨⟨d, b⟩, c⟩, fun s hs => ?_⟩
    have := a s hs
    omega
theorem validSprites_eq (l : List Size) (w : Int) (hl : l.length ≤ 1000000000) (k : Nat) (hk : l.length < k) : spec_validSprites.f k l w = some (spritesOK l w) := by
  have h := loop_up 0 l.length (fun k i (_ : Unit) => spec_validSprites.l0 k l w (i : Int)) (fun _ _ => True) (fun i _ => (l.drop i).all (okSprite w) && (decide (1 ≤ w) && decide (w ≤ 64)) && decide ((l.length : Int) ≤ 12))
    (by
      intro i s k hi _ _
      have e : (l.drop i).all (okSprite w) = (okSprite w l[i] && (l.drop (i + 1)).all (okSprite w)) := by rw [List.drop_eq_getElem_cons hi, List.all_cons]
      rw [e]
      by_cases c1 : 1 ≤ l[i].f0 ∧ l[i].f0 ≤ w
      · by_cases c2 : 1 ≤ l[i].f1 ∧ l[i].f1 ≤ 16
        · refine .inr ⟨(), ?_, trivial, ?_⟩
          · simp only [spec_validSprites.l0]
            rw [if_pos (by omega), if_pos (by omega), rdSize l i hi, inRangeL, inRangeL]
            simp only [Option.bind_some]
            rw [if_pos (by simpa using c1), if_pos (by simpa using c2), w64n i (by omega)]
          · have : okSprite w l[i] = true := by rw [okSprite_iff]; omega
            rw [this, Bool.true_and]
        · left
          have : okSprite w l[i] = false := by rw [← Bool.not_eq_true, okSprite_iff]; omega
          simp only [spec_validSprites.l0, this, Bool.false_and]
          rw [if_pos (by omega), if_pos (by omega), rdSize l i hi, inRangeL, inRangeL]
          simp only [Option.bind_some]
          rw [if_pos (by simpa using c1), if_neg (by simpa using c2)]
      · left
        have : okSprite w l[i] = false := by rw [← Bool.not_eq_true, okSprite_iff]; omega
        simp only [spec_validSprites.l0, this, Bool.false_and]
        rw [if_pos (by omega), if_pos (by omega), rdSize l i hi, inRangeL]
        simp only [Option.bind_some]
        rw [if_neg (by simpa using c1)])
    (by
      intro s k _ _
      simp only [spec_validSprites.l0]
      rw [if_neg (by omega), inRangeL, List.drop_length]
      simp only [Option.bind_some, List.all_nil, Bool.true_and]
      by_cases c : (decide (1 ≤ w) && decide (w ≤ 64)) = true
      · rw [if_pos c, c, Bool.true_and]
      · rw [if_neg c]; simp only [Bool.not_eq_true] at c; rw [c, Bool.false_and])
    l.length 0 () k (by omega) trivial (by omega)
  unfold spec_validSprites.f spritesOK
  simpa using h
def areaS (l : List Size) : Int := (l.map fun s => s.f0 * s.f1).sum
def topS (l : List Size) (h : Int) : Int := l.foldl (fun h s => max h s.f1) h
theorem areaS_cons (s : Size) (l : List Size) : areaS (s :: l) = s.f0 * s.f1 + areaS l := by simp [areaS]
def leastN (l : List Size) (w : Int) : Int := if spritesOK l w = true then max (topS l 0) ((areaS l + w - 1) / w) else -1
theorem prod_ok (x : Size) (w : Int) (hw : w ≤ 64) (h : 1 ≤ x.f0 ∧ x.f0 ≤ w ∧ 1 ≤ x.f1 ∧ x.f1 ≤ 16) : 0 ≤ x.f0 * x.f1 ∧ x.f0 * x.f1 ≤ 1024 := by
  have h3 : 0 ≤ x.f0 * x.f1 := Int.mul_nonneg (by omega) (by omega)
  have h4 : x.f0 * x.f1 ≤ 64 * 16 := Int.mul_le_mul (by omega) (by omega) (by omega) (by omega)
  omega
theorem least_end (w a h : Int) (hw : 1 ≤ w) (hw' : w ≤ 64) (ha : 0 ≤ a) (ha' : a ≤ 1000000) : (if w = 0 then none else some (mx h (wrap64 (Int.tdiv (wrap64 ((wrap64 (a + w)) - 1)) w)))) = some (max h ((a + w - 1) / w)) := by
  have h1 : 0 ≤ (a + w - 1) / w := Int.ediv_nonneg (by omega) (by omega)
  have h2 : (a + w - 1) / w ≤ a + w - 1 := Int.ediv_le_self _ (by omega)
  rw [if_neg (by omega), w64 (x := a + w) (by omega) (by omega), w64 (x := a + w - 1) (by omega) (by omega), tdiv_nn _ _ (by omega), w64 (by omega) (by omega), mx_def]
theorem impl_LeastHeight_eq (l : List Size) (w : Int) (hl : l.length ≤ 1000000000) (k : Nat) (hk : l.length < k) : impl_LeastHeight.f k l w = some (leastN l w) := by
  unfold impl_LeastHeight.f leastN
  rw [areSprites_eq]
  simp only [Option.bind_some]
  by_cases c : spritesOK l w = true
  · rw [if_pos c, if_pos c]
    rw [spritesOK_iff] at c
    obtain ⟨hs, hw, hn⟩ := c
    have h := loop_up 0 l.length (fun k i (s : Int × Int) => impl_LeastHeight.l0 k w s.1 s.2 l (l.length : Int) (i : Int)) (fun i s => 0 ≤ s.1 ∧ s.1 ≤ 1024 * (i : Int))
      (fun i s => max (topS (l.drop i) s.2) ((s.1 + areaS (l.drop i) + w - 1) / w))
      (by
        intro i s k hi hinv _
        have hp := prod_ok l[i] w hw.2 (hs l[i] (List.getElem_mem hi))
        refine .inr ⟨(s.1 + l[i].f0 * l[i].f1, mx s.2 l[i].f1), ?_, by simp only; omega, ?_⟩
        · simp only [impl_LeastHeight.l0]
          rw [if_pos (by omega), if_pos (by omega), if_pos (by omega), rdSize l i hi, w64n i (by omega), w64 (x := l[i].f0 * l[i].f1) (by omega) (by omega), w64 (x := s.1 + l[i].f0 * l[i].f1) (by omega) (by omega)]
        · rw [List.drop_eq_getElem_cons hi, areaS_cons, mx_def]
          have : topS (l[i] :: l.drop (i + 1)) s.2 = topS (l.drop (i + 1)) (max s.2 l[i].f1) := rfl
          rw [this]
          congr 2; omega)
      (by
        intro s k hinv _
        rw [List.drop_length]
        simp only [impl_LeastHeight.l0]
        rw [if_neg (by omega), least_end w s.1 s.2 hw.1 hw.2 hinv.1 (by omega)]
        simp [areaS, topS])
      l.length 0 (0, 0) k (by omega) (by simp) (by omega)
    simpa using h
  · rw [if_neg c, if_neg c]
/-! the sprites that are drawn -/
theorem anySprites_ev (b : List Int) (p : Int) (hb : Bytes b) (hp0 : 0 ≤ p) (hp : p ≤ 1000000) :
    ∃ (l : List Size) (p' : Int), Ev (fun k => spec_anySprites.f k b p) (l, p') ∧ l.length ≤ 13 ∧ 0 ≤ p' ∧ p' ≤ 2000000 := by
  obtain ⟨n, hn, hmem⟩ := one_at b p [3, 5, 8, 2, 1, 0, 12, 13] (by simp) (by simp) hb hp0 (by omega)
  have hn13 : 0 ≤ n ∧ n ≤ 13 := by simp at hmem; omega
  obtain ⟨m, rfl⟩ := Int.eq_ofNat_of_zero_le hn13.1
  have key : ∀ (m : Nat) (x : List Size) (p : Int), x.length + m ≤ 13 → 0 ≤ p → p + 3 * (m : Int) ≤ 1500000 →
      ∃ (l : List Size) (p' : Int), Ev (fun k => spec_anySprites.l0 k x (m : Int) b p) (l, p') ∧ l.length ≤ 13 ∧ 0 ≤ p' ∧ p' ≤ 2000000 := by
    intro m
    induction m with
    | zero =>
      intro x p hx hp0 hp
      have j1 : ∀ (c : Bool) (q : Int), 0 < x.length ∨ c = false → 0 ≤ q → q ≤ 1500001 → ∃ (l : List Size) (p' : Int), Ev (fun k => spec_anySprites.j1 k x c b q) (l, p') ∧ l.length ≤ 13 ∧ 0 ≤ p' ∧ p' ≤ 2000000 := by
        intro c q hc hq0 hq
        cases c with
        | false =>
          refine ⟨x, q, Ev.step (f := fun _ => some (x, q)) (fun k => ?_) (Ev.now _), by omega, by omega, by omega⟩
          simp only [spec_anySprites.j1]
          rw [if_neg (by simp)]
        | true =>
          obtain ⟨v1, h1, _⟩ := one_at b q [0, 16, 65] (by simp) (by simp) hb hq0 (by omega)
          obtain ⟨v2, h2, _⟩ := one_at b (q + 1) [0, 16, 17] (by simp) (by simp) hb (by omega) (by omega)
          have hlx : 0 < x.length := by rcases hc with h | h; exact h; cases h
          refine ⟨x.set 0 ⟨v1, v2⟩, q + 1 + 1, ?_, by simp; omega, by omega, by omega⟩
          refine ev_of 1 (fun k hk => ?_)
          obtain ⟨k, rfl⟩ : ∃ m, k = m + 1 := ⟨k - 1, by omega⟩
          simp only [spec_anySprites.j1, if_true]
          rw [h1 k (by omega)]
          simp only [Option.bind_some]
          rw [h2 k (by omega)]
          simp only [Option.bind_some]
          rw [if_pos (by omega)]; rfl
      by_cases c : (x.length : Int) > 0
      · obtain ⟨v, hv, _⟩ := pick_at b p 20 hb hp0 (by omega)
        obtain ⟨l, p', hl, h1, h2, h3⟩ := j1 (v == 0) (p + 1) (.inl (by omega)) (by omega) (by omega)
        refine ⟨l, p', ?_, h1, h2, h3⟩
        refine Ev.step (f := fun k => (spec_reader_pick.f k b p 20).bind fun bt => spec_anySprites.j1 k x (bt.1 == 0) b bt.2) (fun k => ?_) (ev_bind (ev_of 0 hv) hl)
        simp only [spec_anySprites.l0]
        rw [if_neg (by simp), if_pos c]
      · obtain ⟨l, p', hl, h1, h2, h3⟩ := j1 false p (.inr rfl) hp0 (by omega)
        refine ⟨l, p', Ev.step (fun k => ?_) hl, h1, h2, h3⟩
        simp only [spec_anySprites.l0]
        rw [if_neg (by simp), if_neg c]
    | succ m ih =>
      intro x p hx hp0 hp
      obtain ⟨v1, h1, _⟩ := pick_at b p 8 hb hp0 (by omega)
      obtain ⟨v2, h2, _⟩ := pick_at b (p + 1) 8 hb (by omega) (by omega)
      obtain ⟨l, p', hl, q1, q2, q3⟩ := ih (x ++ [⟨wrap64 (1 + v1), wrap64 (1 + v2)⟩]) (p + 1 + 1) (by simp; omega) (by omega) (by omega)
      refine ⟨l, p', ?_, q1, q2, q3⟩
      refine Ev.step (f := fun k => (spec_reader_pick.f k b p 8).bind fun b1 => (spec_reader_pick.f k b b1.2 8).bind fun b2 => spec_anySprites.l0 k (x ++ [⟨wrap64 (1 + b1.1), wrap64 (1 + b2.1)⟩]) (m : Int) b b2.2) (fun k => ?_) (ev_bind (ev_of 0 h1) (ev_bind (ev_of 0 h2) hl))
      simp only [spec_anySprites.l0]
      rw [if_pos (by omega)]
      have e : wrap64 (((m + 1 : Nat) : Int) - 1) = (m : Int) := by rw [w64 (by omega) (by omega)]; omega
      simp only [if_pos (show x.length < 8796093022208 by omega), e]
  obtain ⟨l, p', hl, h1, h2, h3⟩ := key m [] (p + 1) (by simp; omega) (by omega) (by omega)
  exact ⟨l, p', ev_bind (ev_of 0 hn) hl, h1, h2, h3⟩
theorem drawSprites (code : List Int) (h : ∀ x ∈ code, (Lit.int .u8 x).wf = true) :
    ∃ (l : List Size) (w : Int), Ev (fun k => spec_DrawPackSprites.f k code) (l, w) ∧ l.length ≤ 13 := by
  obtain ⟨b, hr, hb⟩ := newReader_at code (code_bytes code h)
  obtain ⟨l, p', hl, hn, h0, h1⟩ := anySprites_ev b 0 hb (by omega) (by omega)
  obtain ⟨w, hw, _⟩ := one_at b p' [10, 16, 8, 20, 64, 65, 0] (by simp) (by simp) hb h0 (by omega)
  refine ⟨l, w, ?_, hn⟩
  unfold spec_DrawPackSprites.f
  exact ev_now hr (ev_bind hl (ev_bind (ev_of 0 hw) (Ev.now _)))
end Go.Proofs.Ytgfjccegehnjcaa.Pure

/- impl.PackSprites' first function value: how much higher one sprite is than another. -/
namespace Go.Proofs.Ytgfjccegehnjcaa.Q
open Go.RowKit Go.Proofs.YtgfjccegehnjcaaW.PrintWords Go.Proofs.YtgfjccegehnjcaaW.PrintLast Go.Proofs.YtgfjccegehnjcaaW.PrintMore
attribute [local go_sem] max2_int min2_int max_two min_two max_three min_three max_four min_four
set_option linter.unusedVariables false
set_option linter.unusedSimpArgs false
open Go.Proofs.Ytgfjccegehnjcaa.Pure

set_option maxHeartbeats 1000000 in
theorem packCmp (l : List S42) (A : Option Addr) (c : Nat) (x y : Int) (B : Nat) (W : World) (hx : 0 ≤ x) (hx' : x < (l.length : Int)) (hy : 0 ≤ y) (hy' : y < (l.length : Int))
    (hX : 0 ≤ hOf l x ∧ hOf l x ≤ 1000) (hY : 0 ≤ hOf l y ∧ hOf l y ≤ 1000) (hc : W.cell? ⟨B, 0, none⟩ = some (.slice A l.length c)) (hr : Kd.C k42 W A l.length l) :
    Calls Try.prog 66 #[.int .i64 x, .int .i64 y, .pointer (some ⟨B, 0, none⟩)] W fun e W' => e = .returned (.int .i64 (hOf l y - hOf l x)) ∧ ∃ m, W' = W.drewN m := by
  have hu := Try.underlying34
  have hus := Try.underlying42
  obtain ⟨ad, e, _, hx1⟩ := at_T42 hr x hx hx'
  subst e
  obtain ⟨ad2, e, _, hy1⟩ := at_T42 hr y hy hy'
  injection e with e
  subst e
  replace hx1 : W.cell? _ = some (.int .i64 (hOf l x)) := hx1
  replace hy1 : W.cell? _ = some (.int .i64 (hOf l y)) := hy1
  generalize hOf l x = X at *
  generalize hOf l y = Y at *
  have hw : IntKind.i64.wrap (Y - X) = Y - X := by rw [IntKind.wrap_i64]; omega
  clear hr
  go_enter Try.func66, Try.ntmps66
  go_wp2
  go_quiet (fail)
  go_wp2
  go_ret
  exact ⟨by first | rfl | (rw [hw]), _, rfl⟩

/- impl.PackSprites' second function value: whether a sprite has room in a shelf. -/

set_option maxHeartbeats 1000000 in
theorem packFits (x : S50) (SW SH width : Int) (B1 B2 : Nat) (W : World) (h1 : W.heap[B1]? = some (.cells #[.int .i64 SW, .int .i64 SH] 42 (0, 0))) (h2 : W.heap[B2]? = some (.cells #[.int .i64 width] 3 (0, 0))) :
    Calls Try.prog 68 #[.agg #[.int .i64 x.f0, .int .i64 x.f1, .int .i64 x.f2, .int .i64 x.f3], .pointer (some ⟨B1, 0, none⟩), .pointer (some ⟨B2, 0, none⟩)] W fun e W' => e = .returned (.bool (pkP width SW x)) ∧ Below W.heap.size W W' := by
  have hu := Try.underlying50
  have hus := Try.underlying42
  have c1 : W.cell? ⟨B1, 0, none⟩ = some (.int .i64 SW) := (blk_cell h1 0).trans rfl
  have c2 : W.cell? ⟨B2, 0, none⟩ = some (.int .i64 width) := (blk_cell h2 0).trans rfl
  have hlt1 := World.block_lt_of_cell? W _ c1
  have hlt2 := World.block_lt_of_cell? W _ c2
  clear h1 h2
  go_enter Try.func68, Try.ntmps68
  go_wp2
  go_ret
  exact ⟨by unfold pkP wrap64; first | rfl | (congr 2; done), (Below.refl _ _).alloc (Nat.le_refl _) _⟩

/- slices.insertionSortCmpFunc over the numbers below n, by a function value that tells which of two stands for the higher one. -/

set_option maxHeartbeats 4000000 in
set_option maxRecDepth 100000 in
theorem insertion_calls (q : Nat) (lb : Array Value) (H : Int → Int) (n : Nat) (hn : n ≤ 12) (g cap base : Nat) (ok : Nat → Prop) (w : World)
    (eg : ∀ args W, (callFunc q args).run Try.prog W = .ok (.enter q args) W) (hH : ∀ x : Int, 0 ≤ x → x < n → 0 ≤ H x ∧ H x ≤ 1000)
    (hp : ∀ (W : World) (x y : Int), 0 ≤ x → x < n → 0 ≤ y → y < n → Below base w W → Calls Try.prog q (#[.int .i64 x, .int .i64 y] ++ lb) W fun e W' => e = .returned (.int .i64 (H y - H x)) ∧ ∃ m, W' = W.drewN m)
    (hbg : base ≤ g) (hr : Kd.R (Kd.int .i64) 3 w base ok (.slice (some ⟨g, 0, none⟩) n cap) (seqI 0 n)) :
    Calls Try.prog 98 #[.slice (some ⟨g, 0, none⟩) n cap, .int .i64 0, .int .i64 n, .func (.func q) #[] lb] w fun e w' => e = .returned (.tuple #[]) ∧ Kd.R (Kd.int .i64) 3 w' base ok (.slice (some ⟨g, 0, none⟩) n cap) (tall H n) ∧ Below base w w' := by
  have HP := Aside0.mk hp
  have HH := Aside0.mk hH
  have hu := Try.underlying57
  have h0 : tall H (min 1 n) ++ seqI (min 1 n) n = seqI 0 n := by
    rcases Nat.eq_zero_or_pos n with e | e
    · subst e; simp [tall]
    · rw [show min 1 n = 0 + 1 by omega, ← midS_end H (show insPos H (tall H 0) ((0 : Nat) : Int) 0 = 0 from rfl), ← midS_start H e]; rfl
  have HR := Aside0.mk (h0 ▸ hr)
  clear hp hH hr h0
  go_enter Try.func98, Try.ntmps98
  go_wp2
  go_loopw [8] (fun v8 W => ∃ i : Nat, v8 = .int .i64 i ∧ 1 ≤ i ∧ i ≤ max n 1 ∧ Aside0 (Kd.R (Kd.int .i64) 3 W base ok (.slice (some ⟨g, 0, none⟩) n cap) (tall H (min i n) ++ seqI (min i n) n) ∧ Below base w W)) (fun v8 _ => n - (intOf v8).toNat)
  case atStart => exact ⟨1, by go_num, by omega, by omega, ⟨HR.out, Below.refl _ _⟩⟩
  case round =>
    obtain ⟨i, rfl, h1, hi, HV⟩ := hrel
    by_cases hlt : i < n
    · have hltz : (i : Int) < (n : Int) := by omega
      have hs : tall H (min i n) ++ seqI (min i n) n = midS H n i i := by rw [show min i n = i by omega, midS_start H hlt]
      go_wp2
      go_loopw [9] (fun v9 W => ∃ j : Nat, v9 = .int .i64 j ∧ j ≤ i ∧ Aside0 (insPos H (tall H i) (i : Int) i = insPos H (tall H i) (i : Int) j ∧ Kd.R (Kd.int .i64) 3 W base ok (.slice (some ⟨g, 0, none⟩) n cap) (midS H n i j) ∧ Below base w W)) (fun v9 _ => (intOf v9).toNat)
      case atStart => exact ⟨i, rfl, Nat.le_refl _, ⟨rfl, hs ▸ HV.out.1, HV.out.2⟩⟩
      case round =>
        clear HV hs
        obtain ⟨j, rfl, hj, HV⟩ := hrel
        by_cases hj0 : 0 < j
        · obtain ⟨a, rfl⟩ : ∃ a, j = a + 1 := ⟨j - 1, by omega⟩
          have hl := midS_len H (a + 1) hlt
          have hlow := midS_low H hlt (show a < i by omega)
          have hat := midS_at H hlt (show a + 1 ≤ i by omega)
          have hsw := midS_swap H hlt (show a < i by omega)
          have hip : insPos H (tall H i) (i : Int) (a + 1) = if H (rd (tall H i) (a : Int)) < H (i : Int) then insPos H (tall H i) (i : Int) a else a + 1 := rfl
          have hti : 0 ≤ rd (tall H i) (a : Int) ∧ rd (tall H i) (a : Int) < (i : Int) := tall_rd H i a (by omega)
          have hR := HV.out.2.1
          have hK := HV.out.2.2
          have hI := HV.out.1
          have hR2 : Kd.R (Kd.int .i64) 3 wr base ok (.slice (some ⟨g, 0, none⟩) (midS H n i (a + 1)).length cap) (midS H n i (a + 1)) := by rw [hl]; exact hR
          obtain ⟨t, ht⟩ : ∃ t, t = rd (tall H i) (a : Int) := ⟨_, rfl⟩
          rw [← ht] at hlow hsw hip hti
          have cj : wr.cell? ⟨g, a + 1, none⟩ = some (.int .i64 (i : Int)) := by
            have h := (Kd.R_cell 0 hR2 ((a + 1 : Nat) : Int) (by omega) (by omega)).1
            have e : rdOf 0 (midS H n i (a + 1)) ((a + 1 : Nat) : Int) = (i : Int) := hat
            rw [e] at h
            exact h
          have cp : wr.cell? ⟨g, a, none⟩ = some (.int .i64 t) := by
            have h := (Kd.R_cell 0 hR2 (a : Int) (by omega) (by omega)).1
            have e : rdOf 0 (midS H n i (a + 1)) (a : Int) = t := hlow
            rw [e] at h
            exact h
          have fj : wr.frozen? ⟨g, a + 1, none⟩ = false := (Kd.R_cell 0 hR2 ((a + 1 : Nat) : Int) (by omega) (by omega)).2
          have fp : wr.frozen? ⟨g, a, none⟩ = false := (Kd.R_cell 0 hR2 (a : Int) (by omega) (by omega)).2
          have hHi := HH.out (i : Int) (by omega) (by omega)
          have hHt := HH.out t (by omega) (by omega)
          have hc : ∀ m, Calls Try.prog q (#[.int .i64 (i : Int), .int .i64 t] ++ lb) (wr.drewN m) fun e W' => e = .returned (.int .i64 (H t - H (i : Int))) ∧ ∃ m', W' = (wr.drewN m).drewN m' := fun m => HP.out _ (i : Int) t (by omega) (by omega) (by omega) (by omega) (pw_below_drewN hK m)
          have hwp : IntKind.i64.wrap (a : Int) = (a : Int) := by rw [IntKind.wrap_i64]; omega
          have jz : (a : Int) + 1 < (n : Int) := by omega
          have jz1 : (a : Int) < (n : Int) := by omega
          have hjaz' : (0 : Int) < (a : Int) + 1 := by omega
          have p0 : (0 : Int) ≤ (a : Int) + 1 := by omega
          have e0 : ((a : Int) + 1).toNat = a + 1 := by omega
          have KK := Aside0.mk (And.intro hR2 (And.intro hK hI))
          have SW := Aside0.mk hsw
          have IP := Aside0.mk hip
          clear hR hR2 hK hI hlow hat hsw hip hti HV HP ht
          by_cases hlv : H t < H (i : Int)
          · have hlv' : H t - H (i : Int) < 0 := by omega
            go_wp2_with fail
            go_quiet (first | (go_at_fn q; refine Calls.quiet_of (hc _)))
            go_wp2_with fail
            obtain ⟨j1, hj1⟩ : ∃ j1, j1 = a + 1 := ⟨_, rfl⟩
            have cj2 : (wr.drewN nq).cell? ⟨g, j1, none⟩ = some (.int .i64 (i : Int)) := by rw [hj1]; exact cj
            have cp2 : (wr.drewN nq).cell? ⟨g, a, none⟩ = some (.int .i64 t) := cp
            have fj2 : (wr.drewN nq).frozen? ⟨g, j1, none⟩ = false := by rw [hj1]; exact fj
            have fp2 : (wr.drewN nq).frozen? ⟨g, a, none⟩ = false := fp
            have K2 := Aside0.mk (And.intro (Kd.R_drewN KK.out.1 nq) (pw_below_drewN KK.out.2.1 nq))
            rw [← hj1] at e0
            have J1 := Aside0.mk hj1
            clear cj cp fj fp hc hj1
            generalize wr.drewN nq = wq at cj2 cp2 fj2 fp2 K2 ⊢
            go_big_region
            all_goals go_wp2
            go_roundw
            case rel =>
              have hl2 := midS_len H (a + 1) hlt
              have R0 : Kd.R (Kd.int .i64) 3 wq base ok (.slice (some ⟨g, 0, none⟩) n cap) (midS H n i (a + 1)) := by have h := K2.out.1; rw [hl2] at h; exact h
              have R1 := Kd.R_putn R0 ((a + 1 : Nat) : Int) t
              have R2 := Kd.R_putn R1 (a : Int) (i : Int)
              rw [Int.toNat_natCast, Int.toNat_natCast, SW.out] at R2
              have e1 := IP.out
              rw [if_pos hlv] at e1
              have e2 := J1.out
              subst e2
              exact ⟨a, rfl, by omega, ⟨KK.out.2.2.trans e1, Kd.R_drew R2, below_drew1 (Below.setCell (Below.setCell K2.out.2 hbg _) hbg _)⟩⟩
            case measure => simp [intOf]
          · have hlv' : ¬ H t - H (i : Int) < 0 := by omega
            go_wp2_with fail
            go_quiet (first | (go_at_fn q; refine Calls.quiet_of (hc _)))
            go_wp2
            go_roundw
            case rel =>
              have e1 := IP.out
              rw [if_neg (by omega)] at e1
              have e2 := midS_end H (n := n) (KK.out.2.2.trans e1)
              have R1 := Kd.R_drewN KK.out.1 nq
              rw [midS_len H (a + 1) hlt, e2] at R1
              exact ⟨i + 1, by go_num, by omega, by omega, ⟨by rw [show min (i + 1) n = i + 1 by omega]; exact R1, pw_below_drewN KK.out.2.1 nq⟩⟩
            case measure => simp [intOf]; omega
        · have hj00 : j = 0 := by omega
          subst hj00
          have hjf : decide (((0 : Nat) : Int) > 0) = false := by decide
          go_wp2_with fail
          go_quiet (fail)
          go_wp2
          go_roundw
          case rel =>
            have e2 := midS_end H (n := n) HV.out.1
            have R1 := Kd.R_drewN HV.out.2.1 nq
            rw [show insPos H (tall H i) (i : Int) 0 = 0 from rfl] at e2
            rw [e2] at R1
            exact ⟨i + 1, by go_num, by omega, by omega, ⟨by rw [show min (i + 1) n = i + 1 by omega]; exact R1, pw_below_drewN HV.out.2.2 nq⟩⟩
          case measure => simp [intOf]; omega
    · have hltz : ¬ (i : Int) < (n : Int) := by omega
      go_wp2
      go_end0
      have e : min i n = n := by omega
      exact ⟨rfl, by have h := HV.out.1; rw [e, seqI_nil, List.append_nil] at h; exact h, HV.out.2⟩

/- slices.stableCmpFunc over the numbers below n, at most 12: one insertion sort. -/

set_option maxHeartbeats 1000000 in
theorem stable_calls (q : Nat) (lb : Array Value) (H : Int → Int) (n : Nat) (hn : n ≤ 12) (g cap base : Nat) (ok : Nat → Prop) (w : World)
    (eg : ∀ args W, (callFunc q args).run Try.prog W = .ok (.enter q args) W) (hH : ∀ x : Int, 0 ≤ x → x < n → 0 ≤ H x ∧ H x ≤ 1000)
    (hp : ∀ (W : World) (x y : Int), 0 ≤ x → x < n → 0 ≤ y → y < n → Below base w W → Calls Try.prog q (#[.int .i64 x, .int .i64 y] ++ lb) W fun e W' => e = .returned (.int .i64 (H y - H x)) ∧ ∃ m, W' = W.drewN m)
    (hbg : base ≤ g) (hr : Kd.R (Kd.int .i64) 3 w base ok (.slice (some ⟨g, 0, none⟩) n cap) (seqI 0 n)) :
    Calls Try.prog 88 #[.slice (some ⟨g, 0, none⟩) n cap, .int .i64 n, .func (.func q) #[] lb] w fun e w' => e = .returned (.tuple #[]) ∧ Kd.R (Kd.int .i64) 3 w' base ok (.slice (some ⟨g, 0, none⟩) n cap) (tall H n) ∧ Below base w w' := by
  have HC := Aside0.mk (insertion_calls q lb H n hn g cap base ok w eg hH hp hbg hr)
  have h20 : decide ((20 : Int) ≤ (n : Int)) = false := decide_eq_false (by omega)
  have h20' : decide ((20 : Int) < (n : Int)) = false := decide_eq_false (by omega)
  clear hp hH hr
  go_enter Try.func88, Try.ntmps88
  go_wp2
  go_loopw [7, 8] (fun v7 v8 W => v7 = .int .i64 0 ∧ v8 = .int .i64 20 ∧ W = w) (fun _ _ _ => 0)
  case atStart => exact ⟨rfl, rfl, rfl⟩
  case round =>
    obtain ⟨rfl, rfl, rfl⟩ := hrel
    go_wp2_with (first | (go_at_call 98; (with_reducible refine (HC.out).mono ?_); rintro e w2 ⟨rfl, hr2⟩; have HR2 := Aside0.mk hr2; clear hr2))
    go_loopw [6] (fun v6 W => v6 = .int .i64 20 ∧ W = w2) (fun _ _ => 0)
    case atStart => exact ⟨rfl, rfl⟩
    case round =>
      obtain ⟨rfl, rfl⟩ := hrel
      go_wp2
      go_end0
      exact ⟨rfl, HR2.out⟩

/- slices.SortStableFunc over the numbers below n, at most 12. -/

set_option maxHeartbeats 1000000 in
theorem sortStable_calls (q : Nat) (lb : Array Value) (H : Int → Int) (n : Nat) (hn : n ≤ 12) (g cap base : Nat) (ok : Nat → Prop) (w : World)
    (eg : ∀ args W, (callFunc q args).run Try.prog W = .ok (.enter q args) W) (hH : ∀ x : Int, 0 ≤ x → x < n → 0 ≤ H x ∧ H x ≤ 1000)
    (hp : ∀ (W : World) (x y : Int), 0 ≤ x → x < n → 0 ≤ y → y < n → Below base w W → Calls Try.prog q (#[.int .i64 x, .int .i64 y] ++ lb) W fun e W' => e = .returned (.int .i64 (H y - H x)) ∧ ∃ m, W' = W.drewN m)
    (hbg : base ≤ g) (hr : Kd.R (Kd.int .i64) 3 w base ok (.slice (some ⟨g, 0, none⟩) n cap) (seqI 0 n)) :
    Calls Try.prog 65 #[.slice (some ⟨g, 0, none⟩) n cap, .func (.func q) #[] lb] w fun e w' => e = .returned (.tuple #[]) ∧ Kd.R (Kd.int .i64) 3 w' base ok (.slice (some ⟨g, 0, none⟩) n cap) (tall H n) ∧ Below base w w' := by
  have HC := Aside0.mk (stable_calls q lb H n hn g cap base ok w eg hH hp hbg hr)
  clear hp hH hr
  go_enter Try.func65, Try.ntmps65
  go_wp2_with (first | (go_at_call 88; (with_reducible refine (HC.out).mono ?_); rintro e w2 ⟨rfl, hr2⟩; have HR2 := Aside0.mk hr2; clear hr2))
  go_end0
  exact ⟨rfl, HR2.out⟩

/- impl.PackSprites: sprites in shelves, the highest first. -/

def impl_PackSprites.f (l0 : List S42) (a1 : Int) : Option (List S50 × Int) :=
  (impl_areSprites.f l0 a1).bind fun c => some (if c = true then ((pkRun l0 a1 l0.length l0.length).1, (pkRun l0 a1 l0.length l0.length).2.2) else ([], -1))
theorem far4 {α : Type} {d : Kd α} {e base : Nat} {ok : Nat → Prop} {W : World} {v : Value} {xs : List α} (h : d.R e W base ok v xs) (g j0 j1 j2 j3 : Nat) (u0 u1 u2 u3 : Value) (hne : ∀ k, ok k → k ≠ g) : d.R e ((((W.setCell ⟨g, j0, none⟩ u0).setCell ⟨g, j1, none⟩ u1).setCell ⟨g, j2, none⟩ u2).setCell ⟨g, j3, none⟩ u3).drew base ok v xs :=
  Kd.R_drew (Kd.R_far (Kd.R_far (Kd.R_far (Kd.R_far h (p := ⟨g, j0, none⟩) hne u0) (p := ⟨g, j1, none⟩) hne u1) (p := ⟨g, j2, none⟩) hne u2) (p := ⟨g, j3, none⟩) hne u3)
set_option maxHeartbeats 4000000 in
set_option maxRecDepth 100000 in
theorem impl_PackSprites.calls (A0 : Option Addr) (c0 : Nat) (l0 : List S42) (a1 : Int) (r1 : List S50) (r2 : Int) (w : World) (hr0 : Kd.C k42 w A0 l0.length l0) (hc0 : l0.length ≤ c0) (h : impl_PackSprites.f l0 a1 = some (r1, r2)) :
    Calls Try.prog 34 #[.slice A0 l0.length c0, .int .i64 a1] w fun e w' => ∃ v0_ : Value, e = .returned (.tuple #[v0_, .int .i64 r2]) ∧ Kd.R k50 50 w' w.heap.size (fun _ => True) v0_ r1 ∧ Below w.heap.size w w' := by
  have hm : l0.length ≤ 9223372036854775807 := hr0.2.1
  unfold impl_PackSprites.f at h
  obtain ⟨b, hb⟩ : ∃ b, impl_areSprites.f l0 a1 = some b := ⟨_, rfl⟩
  rw [hb] at h
  simp only [Option.bind_some] at h
  have HE := Aside0.mk hb
  have HR := Aside0.mk hr0
  have HC := Aside0.mk hc0
  have HB0 := Aside0.mk (Below.refl w.heap.size w)
  have hu := Try.underlying34
  have hub := Try.underlying27
  have hus := Try.underlying42
  have hux := Try.underlying50
  have hui := Try.underlying57
  clear hr0 hc0
  cases b with
  | false =>
    obtain ⟨rfl, rfl⟩ : [] = r1 ∧ -1 = r2 := by simpa using h
    clear h hb
    go_enter Try.func34, Try.ntmps34
    go_wp2_with (first
      | ((with_reducible refine gate_dst (N := 2) rfl ?_); refine box_event ?hg (N := 2) ?hd (cs := #[.slice A0 l0.length c0]) (t := 34) ?hr ?_; (case hd => rfl); (case hg => rfl); (case hr => first | (go_simp; done) | (go_simp; rfl)); intro g2 hg_ w1 hbox hb; have HB1 := Aside0.mk (below_then HB0.out HB0.out.size hb); have K1 := Aside0.mk hbox; have Gg2 := Aside0.mk (show w.heap.size ≤ g2 from by rw [hg_]; exact HB0.out.size); clear hbox hb hg_)
      | ((with_reducible refine gate_dst (N := 3) rfl ?_); refine box_event ?hg (N := 3) ?hd (cs := #[.int .i64 a1]) (t := 3) ?hr ?_; (case hd => rfl); (case hg => rfl); (case hr => first | (go_simp; done) | (go_simp; rfl)); intro g3 hg_ w2 hbox hb; have HB2 := Aside0.mk (below_then HB1.out HB1.out.size hb); have K2 := Aside0.mk hbox; have Gg3 := Aside0.mk (show w.heap.size ≤ g3 from by rw [hg_]; exact HB1.out.size); have P2 := Aside0.mk (blk_below K1.out hb); have p0 : w2.cell? ⟨g2, 0, none⟩ = some (.slice A0 l0.length c0) := (blk_cell P2.out 0).trans rfl; have q0 : w2.cell? ⟨g3, 0, none⟩ = some (.int .i64 a1) := (blk_cell K2.out 0).trans rfl; clear hbox hb hg_)
      | (go_at_call 57; (with_reducible refine (impl_areSprites.calls A0 c0 l0 a1 false w2 (Kd.C_below HR.out HB2.out) HC.out HE.out).mono ?_); rintro e w3 ⟨rfl, hb⟩; have HB3 := Aside0.mk (below_then HB2.out HB2.out.size hb); have Q2 := Aside0.mk (blk_below P2.out hb); have Q3 := Aside0.mk (blk_below K2.out hb); have r0 : w3.cell? ⟨g2, 0, none⟩ = some (.slice A0 l0.length c0) := (blk_cell Q2.out 0).trans rfl; clear hb))
    go_ret2
    exact ⟨_, rfl, Kd.R_nil _ _ _ _ _, HB3.out⟩
  | true =>
    obtain ⟨rfl, rfl⟩ : (pkRun l0 a1 l0.length l0.length).1 = r1 ∧ (pkRun l0 a1 l0.length l0.length).2.2 = r2 := by simpa using h
    have hsp : l0.length ≤ 12 ∧ ∀ s ∈ l0, 1 ≤ s.f1 ∧ s.f1 ≤ 16 := by
      unfold impl_areSprites.f at hb
      have h2 := Option.some.inj hb
      simp only [Bool.and_eq_true, decide_eq_true_eq, Bool.not_eq_true', List.any_eq_false, badSprite, Bool.or_eq_true, Bool.not_eq_true', Bool.and_eq_false_iff, decide_eq_false_iff_not] at h2
      obtain ⟨⟨⟨ha, _⟩, _⟩, hd⟩ := h2
      refine ⟨by omega, fun s hs => ?_⟩
      have := hd s hs
      omega
    have HL := Aside0.mk hsp.1
    have HH := Aside0.mk (show ∀ x : Int, 0 ≤ x → x < (l0.length : Int) → 0 ≤ hOf l0 x ∧ hOf l0 x ≤ 1000 from fun x h0 h1 => by
      obtain ⟨j, rfl⟩ := Int.eq_ofNat_of_zero_le h0
      have hj : j < l0.length := by omega
      unfold hOf
      rw [show rd_T42 l0 (j : Int) = l0[j] from rdSize l0 j hj]
      have := hsp.2 _ (List.getElem_mem hj)
      omega)
    have EG1 := Aside0.mk (show ∀ args W, (callFunc 66 args).run Try.prog W = .ok (.enter 66 args) W from enters_of Try.func66 (by kernel_rfl) rfl)
    have EG2 := Aside0.mk (show ∀ args W, (callFunc 68 args).run Try.prog W = .ok (.enter 68 args) W from enters_of Try.func68 (by kernel_rfl) rfl)
    have hl12 : l0.length ≤ 12 := hsp.1
    clear h hb hsp
    go_enter Try.func34, Try.ntmps34
    go_wp2_with (first
      | ((with_reducible refine gate_dst (N := 2) rfl ?_); refine box_event ?hg (N := 2) ?hd (cs := #[.slice A0 l0.length c0]) (t := 34) ?hr ?_; (case hd => rfl); (case hg => rfl); (case hr => first | (go_simp; done) | (go_simp; rfl)); intro g2 hg_ w1 hbox hb; have HB1 := Aside0.mk (below_then HB0.out HB0.out.size hb); have K1 := Aside0.mk hbox; have Gg2 := Aside0.mk (show w.heap.size ≤ g2 from by rw [hg_]; exact HB0.out.size); clear hbox hb hg_)
      | ((with_reducible refine gate_dst (N := 3) rfl ?_); refine box_event ?hg (N := 3) ?hd (cs := #[.int .i64 a1]) (t := 3) ?hr ?_; (case hd => rfl); (case hg => rfl); (case hr => first | (go_simp; done) | (go_simp; rfl)); intro g3 hg_ w2 hbox hb; have HB2 := Aside0.mk (below_then HB1.out HB1.out.size hb); have K2 := Aside0.mk hbox; have Gg3 := Aside0.mk (show w.heap.size ≤ g3 from by rw [hg_]; exact HB1.out.size); have P2 := Aside0.mk (blk_below K1.out hb); have p0 : w2.cell? ⟨g2, 0, none⟩ = some (.slice A0 l0.length c0) := (blk_cell P2.out 0).trans rfl; have q0 : w2.cell? ⟨g3, 0, none⟩ = some (.int .i64 a1) := (blk_cell K2.out 0).trans rfl; clear hbox hb hg_)
      | (go_at_call 57; (with_reducible refine (impl_areSprites.calls A0 c0 l0 a1 true w2 (Kd.C_below HR.out HB2.out) HC.out HE.out).mono ?_); rintro e w3 ⟨rfl, hb⟩; have HB3 := Aside0.mk (below_then HB2.out HB2.out.size hb); have Q2 := Aside0.mk (blk_below P2.out hb); have Q3 := Aside0.mk (blk_below K2.out hb); have r0 : w3.cell? ⟨g2, 0, none⟩ = some (.slice A0 l0.length c0) := (blk_cell Q2.out 0).trans rfl; clear hb)
      | ((with_reducible refine gate_dst (N := 19) rfl ?_); refine Kd.R_lit (Kd.int .i64) (w0 := w3) w3.heap.size 3 ?hg (N := 19) ?hd (xs := ([] : List Int)) (inner := []) (ok := fun _ => True) (okp := fun _ => True) ?hr ?hp (fun _ hk => hk) trivial (Below.refl _ _) (Nat.le_refl _) (by simp) ?_; (case hd => rfl); (case hg => rfl); (case hr => first | (go_simp; done) | (go_simp; rfl)); (case hp => exact (Reps.none _ _)); intro v19 w4 ho hb hg_ hnew_; have O4 := Aside0.mk (And.intro ho (And.intro (hnew_.imp fun _ h => h.1) hb)); have R2 := Aside0.mk (blk_below Q2.out hb); have s0 : w4.cell? ⟨g2, 0, none⟩ = some (.slice A0 l0.length c0) := (blk_cell R2.out 0).trans rfl; clear ho hb hg_ hnew_))
    go_loopw [6, 22] (fun v6 v22 W => ∃ i : Nat, v22 = .int .i64 i ∧ i ≤ l0.length ∧ Aside0 (Kd.R (Kd.int .i64) 3 W w3.heap.size (fun _ => True) v6 (seqI 0 i) ∧ (∃ g, v6.ownBlock = some g) ∧ Below w3.heap.size w3 W)) (fun _ v22 _ => l0.length - (intOf v22).toNat)
    case atStart => exact ⟨0, rfl, by omega, ⟨by rw [seqI_nil]; exact O4.out.1, O4.out.2.1, O4.out.2.2⟩⟩
    case round =>
      clear O4 R2
      obtain ⟨i, rfl, hi, HV⟩ := hrel
      by_cases hlt : i < l0.length
      · have q1 : decide ((i : Int) < (l0.length : Int)) = true := decide_eq_true (by omega)
        go_wp2_with (first
          | ((with_reducible refine gate_builtin (b := .append) (xs := #[.tmp 25, .tmp 27]) rfl ?_); at_builtin; refine Kd.R_append (Kd.int .i64) (w0 := w3) w3.heap.size rfl (.tmp 25) (.tmp 27) 57 3 (.int .i64 0) 8 rfl Try.underlying57 info3 rfl (by decide) (by omega) u6 (seqI 0 i) (i : Int) [.int .i64 (i : Int)] (fun _ => True) (fun _ => False) rfl rfl rfl (fun _ hk => hk.elim) (fun _ _ => trivial) HV.out.1 HV.out.2.2 HV.out.2.2.size (by rw [seqI_len]; omega) ?_; intro v28 w5 ho hb hg hat; have O5 := Aside0.mk (And.intro ho (And.intro (show ∃ g, v28.ownBlock = some g from by rcases hat with e | ⟨b, e, _⟩; exact e ▸ HV.out.2.1; exact ⟨b, e⟩) hb)); clear ho hb hg hat))
        go_roundw
        case rel => exact ⟨i + 1, by go_num, by omega, ⟨by rw [seqI_snoc]; exact O5.out.1, O5.out.2.1, O5.out.2.2⟩⟩
        case measure => simp [intOf]; omega
      · have q1 : decide ((i : Int) < (l0.length : Int)) = false := decide_eq_false (by omega)
        have hie : i = l0.length := by omega
        subst hie
        obtain ⟨wo, rfl⟩ : ∃ wo : World, wo = wr := ⟨_, rfl⟩
        obtain ⟨A6, c6, e6⟩ := Kd.R_slice HV.out.1
        subst e6
        obtain ⟨gO, eg⟩ := HV.out.2.1
        rcases A6 with _ | ad6
        · simp [Value.ownBlock] at eg
        obtain ⟨gO', rfl⟩ := Kd.R_head HV.out.1
        obtain rfl : gO' = gO := by simpa [Value.ownBlock] using eg
        have hsl := seqI_len 0 l0.length
        rw [Nat.sub_zero] at hsl
        rw [hsl] at HV ⊢
        clear eg hsl
        obtain ⟨cO, rfl⟩ : ∃ cO, cO = c6 := ⟨_, rfl⟩
        have HO := Aside0.mk HV.out.1
        have HBo := Aside0.mk HV.out.2.2
        have GO := Aside0.mk (Kd.R_base HV.out.1 gO' rfl)
        have HP1 := Aside0.mk (show ∀ (W : World) (x y : Int), 0 ≤ x → x < (l0.length : Int) → 0 ≤ y → y < (l0.length : Int) → Below w3.heap.size wo W → Calls Try.prog 66 (#[.int .i64 x, .int .i64 y] ++ #[.pointer (some ⟨g2, 0, none⟩)]) W fun e W' => e = .returned (.int .i64 (hOf l0 y - hOf l0 x)) ∧ ∃ m, W' = W.drewN m from fun W x y h1 h2 h3 h4 hW =>
          packCmp l0 A0 c0 x y g2 W h1 h2 h3 h4 (HH.out x h1 h2) (HH.out y h3 h4) ((blk_cell (blk_below Q2.out (below_weaken HBo.out (Nat.le_refl _) hW)) 0).trans rfl) (Kd.C_below (Kd.C_below HR.out HB3.out) (below_weaken HBo.out (Nat.le_refl _) hW)))
        clear HV
        obtain ⟨gO, rfl⟩ : ∃ gO, gO = gO' := ⟨_, rfl⟩
        go_wp2_with (first
          | (go_at_call 65; (with_reducible refine (sortStable_calls 66 #[.pointer (some ⟨g2, 0, none⟩)] (hOf l0) l0.length HL.out gO cO w3.heap.size (fun _ => True) wo EG1.out HH.out HP1.out GO.out HO.out).mono ?_); rintro e w5 ⟨rfl, hr5, hb5⟩; have HO5 := Aside0.mk hr5; have HB5 := Aside0.mk (below_weaken HBo.out (Nat.le_refl _) hb5); have R5 := Aside0.mk (blk_below Q2.out HB5.out); have t0 : w5.cell? ⟨g2, 0, none⟩ = some (.slice A0 l0.length c0) := (blk_cell R5.out 0).trans rfl; clear hr5 hb5)
          | ((with_reducible refine gate_dst (N := 35) rfl ?_); refine Kd.R_make k50 (w0 := w5) w5.heap.size 50 rfl (N := 35) rfl 27 _ _ rfl (l0.length : Int) rfl rfl Try.underlying27 (.agg #[(.int .i64 0), (.int .i64 0), (.int .i64 0), (.int .i64 0)]) 32 info50 rfl (by decide) (by omega) z50 (ok := fun _ => True) (okp := fun _ => True) (k50_mkM _ _ _ z50) (fun _ hk => hk) trivial (by omega) (by rw [Int.toNat_natCast]; have := HL.out; omega) (Below.refl _ _) (Nat.le_refl _) ?_; intro v35 w6 ho hb hg_ hnew_; have HB6 := Aside0.mk (below_then HB5.out HB5.out.size hb); have S56 := Aside0.mk hb.size; have HO6 := Aside0.mk (Kd.R_old HO5.out hb); have HX6 := Aside0.mk (And.intro (show Kd.R k50 50 w6 w5.heap.size (fun _ => True) v35 (List.replicate l0.length z50) from by rw [Int.toNat_natCast] at ho; exact ho) (show ∃ g, v35.ownBlock = some g from hnew_.imp fun _ h => h.1)); clear ho hb hg_ hnew_)
          | ((with_reducible refine gate_dst (N := 36) rfl ?_); refine Kd.R_lit k50 (w0 := w6) w6.heap.size 50 ?hg (N := 36) ?hd (xs := ([] : List S50)) (inner := []) (ok := fun _ => True) (okp := fun _ => True) ?hr ?hp (fun _ hk => hk) trivial (Below.refl _ _) (Nat.le_refl _) (by simp) ?_; (case hd => rfl); (case hg => rfl); (case hr => first | (go_simp; done) | (go_simp; rfl)); (case hp => exact (Reps.none _ _)); intro v36 w7 ho hb hg_ hnew_; have HB7 := Aside0.mk (below_then HB6.out HB6.out.size hb); have HS7 := Aside0.mk ho; have S67 := Aside0.mk hb.size; have HO7 := Aside0.mk (Kd.R_below HO6.out hb); have HX7 := Aside0.mk (And.intro (Kd.R_old HX6.out.1 hb) HX6.out.2); clear ho hb hg_ hnew_))
        obtain ⟨A8, c8, e8⟩ := Kd.R_slice HX7.out.1
        subst e8
        obtain ⟨gB', eg⟩ := HX7.out.2
        rcases A8 with _ | ad8
        · simp [Value.ownBlock] at eg
        obtain ⟨gB, rfl⟩ := Kd.R_head HX7.out.1
        obtain rfl : gB = gB' := by simpa [Value.ownBlock] using eg
        rw [List.length_replicate] at HX7 ⊢
        have HXB := Aside0.mk HX7.out.1
        have GB5 := Kd.R_base HX7.out.1 gB rfl
        have GB6 := (HX7.out.1.1 gB rfl).2
        have S35 := HB5.out.size
        have S56' := S56.out
        have S67' := S67.out
        clear eg HX7 HX6 HO6 HB6 HO5 HB5 R5 t0 S56 S67 HP1 EG1 HO HBo GO
        generalize w5.heap.size = s5 at *
        generalize w6.heap.size = s6 at *
        obtain ⟨n, hn⟩ : ∃ n, n = l0.length := ⟨_, rfl⟩
        go_loopw [9, 10, 39] (fun v9 v10 v39 W => ∃ i : Nat, v39 = .int .i64 i ∧ i ≤ l0.length ∧ v10 = .int .i64 (pkRun l0 a1 l0.length i).2.2 ∧ Aside0 (Kd.R (Kd.int .i64) 3 W w3.heap.size (fun k => True ∧ k < s5) (.slice (some ⟨gO, 0, none⟩) l0.length cO) (tall (hOf l0) l0.length) ∧ Kd.R k50 50 W s5 (fun k => True ∧ k < s6) (.slice (some ⟨gB, 0, none⟩) l0.length c8) (pkRun l0 a1 l0.length i).1 ∧ Kd.R k50 50 W s6 (fun _ => True) v9 (pkRun l0 a1 l0.length i).2.1 ∧ Below w3.heap.size w3 W ∧ s6 ≤ W.heap.size)) (fun _ _ v39 _ => l0.length - (intOf v39).toNat)
        case atStart => exact ⟨0, rfl, by omega, rfl, ⟨HO7.out, HXB.out, HS7.out, HB7.out, S67'⟩⟩
        case round =>
          clear HO7 HXB HS7 HB7 S67'
          obtain ⟨i, rfl, hi, rfl, HV⟩ := hrel
          by_cases hlt : i < l0.length
          · have q1 : decide ((i : Int) < (l0.length : Int)) = true := decide_eq_true (by omega)
            have hnx := pkRun_succ l0 a1 hlt
            have hln := pkRun_len l0 a1 l0.length i (by omega)
            have hod := tall_rd (hOf l0) l0.length i hlt
            have hol := tall_len (hOf l0) l0.length
            obtain ⟨o, ho⟩ : ∃ o, o = rd (tall (hOf l0) l0.length) (i : Int) := ⟨_, rfl⟩
            rw [← ho] at hnx hod
            obtain ⟨on, rfl⟩ := Int.eq_ofNat_of_zero_le hod.1
            have hon : (on : Int) < (l0.length : Int) := hod.2
            have on0 : (0 : Int) ≤ (on : Int) := by omega
            have HNX := Aside0.mk hnx
            have co : wr.cell? ⟨gO, i, none⟩ = some (.int .i64 (on : Int)) := by
              have h := (Kd.R_celln 0 HV.out.1 (i : Int) (by omega) (by omega)).1
              have e : rdOf 0 (tall (hOf l0) l0.length) (i : Int) = (on : Int) := ho.symm
              rw [e] at h
              exact h
            obtain ⟨adl, el, hx0, hx1⟩ := at_T42 (Kd.C_below (Kd.C_below HR.out HB3.out) HV.out.2.2.2.1) (on : Int) on0 hon
            subst el
            have hg2 : wr.cell? ⟨g2, 0, none⟩ = some (.slice (some adl) l0.length c0) := (blk_cell (blk_below Q2.out HV.out.2.2.2.1) 0).trans rfl
            clear hnx ho hod r0
            rw [Int.toNat_natCast] at hx0 hx1
            generalize pkRun l0 a1 l0.length i = st at *
            obtain ⟨bs, sh, hh⟩ := st
            unfold pkStep at HNX
            simp only at HNX hln HV
            generalize (rd_T42 l0 (on : Int)).f0 = SW at *
            generalize (rd_T42 l0 (on : Int)).f1 = SH at *
            obtain ⟨A9, c9, e9⟩ := Kd.R_slice HV.out.2.2.1
            subst e9
            have HLN := Aside0.mk hln
            have ON := Aside0.mk (And.intro on0 hon)
            clear hln
            have GS := HV.out.2.2.2.2
            have hshl : sh.length ≤ 12 := by have := HLN.out.2; omega
            have KS := Aside0.mk (blk_new wr (.cells #[.int .i64 SW, .int .i64 SH] 42 (0, 0)))
            have RO := Aside0.mk (Kd.R_alloc HV.out.1 (.cells #[.int .i64 SW, .int .i64 SH] 42 (0, 0)))
            have RB := Aside0.mk (Kd.R_alloc HV.out.2.1 (.cells #[.int .i64 SW, .int .i64 SH] 42 (0, 0)))
            have RS := Aside0.mk (Kd.R_alloc HV.out.2.2.1 (.cells #[.int .i64 SW, .int .i64 SH] 42 (0, 0)))
            have HBB := Aside0.mk (below_alloc HV.out.2.2.2.1 (.cells #[.int .i64 SW, .int .i64 SH] 42 (0, 0)))
            have HP2 := Aside0.mk (show ∀ (W : World) (x : S50), Below (wr.alloc (.cells #[.int .i64 SW, .int .i64 SH] 42)).heap.size (wr.alloc (.cells #[.int .i64 SW, .int .i64 SH] 42)) W → Calls Try.prog 68 (#[.agg #[.int .i64 x.f0, .int .i64 x.f1, .int .i64 x.f2, .int .i64 x.f3]] ++ #[.pointer (some ⟨wr.heap.size, 0, none⟩), .pointer (some ⟨g3, 0, none⟩)]) W fun e W' => e = .returned (.bool (pkP a1 SW x)) ∧ Below W.heap.size W W' from fun W x hW => packFits x SW SH a1 wr.heap.size g3 W (blk_below KS.out hW) (blk_below (blk_below Q3.out HBB.out) hW))
            clear HV
            by_cases hk : idxF (pkP a1 SW) sh < 0
            · go_wp2_with (first
                | (go_at_call 67; (with_reducible refine (idxFunc_Box 68 #[.pointer (some ⟨wr.heap.size, 0, none⟩), .pointer (some ⟨g3, 0, none⟩)] (pkP a1 SW) A9 c9 sh _ EG2.out HP2.out (Kd.R_reads' RS.out).2.2).mono ?_); rintro e w8 ⟨rfl, hb⟩; have RO8 := Aside0.mk (Kd.R_below RO.out hb); have RB8 := Aside0.mk (Kd.R_below RB.out hb); have RS8 := Aside0.mk (Kd.R_below RS.out hb); have KS8 := Aside0.mk (blk_below KS.out hb); have HB8 := Aside0.mk (below_then HBB.out HBB.out.size hb); have SZ8 := Aside0.mk (Nat.le_trans GS (Nat.le_trans (below_alloc (Below.refl _ _) _).size hb.size)); clear hb RO RB RS KS HBB HP2; generalize wr.heap.size = gs at *; have y0 : w8.cell? ⟨gs, 0, none⟩ = some (.int .i64 SW) := (blk_cell KS8.out 0).trans rfl; have y1 : w8.cell? ⟨gs, 1, none⟩ = some (.int .i64 SH) := (blk_cell KS8.out 1).trans rfl)
                | ((with_reducible refine gate_builtin (b := .append) (xs := #[.tmp 54, .tmp 57]) rfl ?_); at_builtin; refine Kd.R_append k50 (w0 := w8) s6 rfl (.tmp 54) (.tmp 57) 27 50 (.agg #[(.int .i64 0), (.int .i64 0), (.int .i64 0), (.int .i64 0)]) 32 rfl Try.underlying27 info50 rfl (by decide) (by omega) (.slice A9 sh.length c9) sh (⟨0, hh, 0, 0⟩ : S50) [.int .i64 0, .int .i64 hh, .int .i64 0, .int .i64 0] (fun _ => True) (fun _ => False) rfl rfl (k50_mkM _ _ _ (⟨0, hh, 0, 0⟩ : S50)) (fun _ hk => hk.elim) (fun _ _ => trivial) RS8.out (Below.refl _ _) SZ8.out (by omega) ?_; intro v58 w9 ho hb hg hat; have RO9 := Aside0.mk (Kd.R_step RO8.out (w1 := w9) (fun k hk _ => hb.block k (by have := hk.2; omega))); have RB9 := Aside0.mk (Kd.R_step RB8.out (w1 := w9) (fun k hk _ => hb.block k (by have := hk.2; omega))); have KS9 := Aside0.mk (blk_grown KS8.out hg (Kd.R_ne RS8.out KS8.out (by decide))); have HB9 := Aside0.mk (below_weaken HB8.out (by omega) hb); have SZ9 := Aside0.mk (Nat.le_trans SZ8.out hb.size); obtain ⟨gS, cS, e58, hgS, _, _⟩ := Kd.R_form ho (by simp); rw [show (sh ++ [(⟨0, hh, 0, 0⟩ : S50)]).length = sh.length + 1 from by simp] at e58; subst e58; have RS9 := Aside0.mk ho; have z0 : w9.cell? ⟨gs, 0, none⟩ = some (.int .i64 SW) := (blk_cell KS9.out 0).trans rfl; have z1 : w9.cell? ⟨gs, 1, none⟩ = some (.int .i64 SH) := (blk_cell KS9.out 1).trans rfl; clear hb ho hg hat))
              obtain ⟨sh1, hsh1⟩ : ∃ sh1, sh1 = sh ++ [(⟨0, hh, 0, 0⟩ : S50)] := ⟨_, rfl⟩
              have hl1 : sh1.length = sh.length + 1 := by rw [hsh1]; simp
              rw [← hsh1] at RS9
              rw [if_pos hk] at HNX
              obtain ⟨kn, hkn⟩ : ∃ kn, kn = sh.length := ⟨_, rfl⟩
              have HKN := Aside0.mk (And.intro hkn hsh1)
              rw [← hkn] at RS9 hl1 hshl ⊢
              clear hkn hsh1
              obtain ⟨X, hX⟩ : ∃ X, X = sh1.getD kn z50 := ⟨_, rfl⟩
              have HX := Aside0.mk hX
              obtain ⟨ce, hcl, hM, hcc, hfr⟩ := Kd.R_elem RS9.out z50 (kn : Int) (by omega) (by omega)
              rw [Int.toNat_natCast] at hM hcc hfr
              rw [← hX] at hM
              obtain rfl := k50_openM hM
              have m1 : w9.cell? ⟨gS, kn * 4 + 1, none⟩ = some (.int .i64 X.f1) := hcc 1 _ rfl
              have m2 : w9.cell? ⟨gS, kn * 4 + 2, none⟩ = some (.int .i64 X.f2) := hcc 2 _ rfl
              have fm2 : w9.frozen? ⟨gS, kn * 4 + 2, none⟩ = false := hfr 2
              obtain ⟨cb, hcb, hMb, hccb, hfrb⟩ := Kd.R_elem RB9.out z50 (on : Int) ON.out.1 ON.out.2
              have hccb0 := hccb
              rw [Int.toNat_natCast] at hMb hccb hfrb
              obtain rfl := k50_openM hMb
              have b0 : w9.cell? ⟨gB, on * 4, none⟩ = some _ := hccb 0 _ rfl
              have b1 : w9.cell? ⟨gB, on * 4 + 1, none⟩ = some _ := hccb 1 _ rfl
              have b2 : w9.cell? ⟨gB, on * 4 + 2, none⟩ = some _ := hccb 2 _ rfl
              have b3 : w9.cell? ⟨gB, on * 4 + 3, none⟩ = some _ := hccb 3 _ rfl
              have fb0 : w9.frozen? ⟨gB, on * 4, none⟩ = false := hfrb 0
              have fb1 : w9.frozen? ⟨gB, on * 4 + 1, none⟩ = false := hfrb 1
              have fb2 : w9.frozen? ⟨gB, on * 4 + 2, none⟩ = false := hfrb 2
              have fb3 : w9.frozen? ⟨gB, on * 4 + 3, none⟩ = false := hfrb 3
              have RB10 := Aside0.mk (show Kd.R k50 50 (((((w9.setCell ⟨gB, on * 4, none⟩ (.int .i64 X.f2)).setCell ⟨gB, on * 4 + 1, none⟩ (.int .i64 X.f1)).setCell ⟨gB, on * 4 + 2, none⟩ (.int .i64 SW)).setCell ⟨gB, on * 4 + 3, none⟩ (.int .i64 SH)).drew) s5 (fun k => True ∧ k < s6) (.slice (some ⟨gB, 0, none⟩) l0.length c8) (bs.set on (⟨X.f2, X.f1, SW, SH⟩ : S50)) from Kd.R_drew (Kd.R_seg RB9.out (on : Int) ON.out.1 ON.out.2 (seg := [.int .i64 X.f2, .int .i64 X.f1, .int .i64 SW, .int .i64 SH]) (j := 0) hcb hccb0 (show 4 ≤ 4 from by decide) (x' := (⟨X.f2, X.f1, SW, SH⟩ : S50)) (okp := fun _ => False) (k50_mkM _ _ _ _) (fun _ hk => hk.elim)).1)
              have RO10 := Aside0.mk (far4 RO9.out gB (on * 4) (on * 4 + 1) (on * 4 + 2) (on * 4 + 3) (.int .i64 X.f2) (.int .i64 X.f1) (.int .i64 SW) (.int .i64 SH) (fun k hk => by have := hk.2; omega))
              have RS10 := Aside0.mk (far4 (Kd.R_bound RS9.out) gB (on * 4) (on * 4 + 1) (on * 4 + 2) (on * 4 + 3) (.int .i64 X.f2) (.int .i64 X.f1) (.int .i64 SW) (.int .i64 SH) (fun k hk => by have := hk.2.1; omega))
              have KS10 := Aside0.mk (blk_drew (blk_far (blk_far (blk_far (blk_far KS9.out (show gs ≠ gB by omega) (p := ⟨gB, on * 4, none⟩) (.int .i64 X.f2)) (show gs ≠ gB by omega) (p := ⟨gB, on * 4 + 1, none⟩) (.int .i64 X.f1)) (show gs ≠ gB by omega) (p := ⟨gB, on * 4 + 2, none⟩) (.int .i64 SW)) (show gs ≠ gB by omega) (p := ⟨gB, on * 4 + 3, none⟩) (.int .i64 SH)))
              have HB10 := Aside0.mk (below_drew1 (below_set (j := on * 4 + 3) (v := .int .i64 SH) (below_set (j := on * 4 + 2) (v := .int .i64 SW) (below_set (j := on * 4 + 1) (v := .int .i64 X.f1) (below_set (j := on * 4) (v := .int .i64 X.f2) HB9.out (show w3.heap.size ≤ gB by omega)) (show w3.heap.size ≤ gB by omega)) (show w3.heap.size ≤ gB by omega)) (show w3.heap.size ≤ gB by omega)))
              have SZ10 := Aside0.mk (show s6 ≤ (((((w9.setCell ⟨gB, on * 4, none⟩ (.int .i64 X.f2)).setCell ⟨gB, on * 4 + 1, none⟩ (.int .i64 X.f1)).setCell ⟨gB, on * 4 + 2, none⟩ (.int .i64 SW)).setCell ⟨gB, on * 4 + 3, none⟩ (.int .i64 SH)).drew).heap.size from Nat.le_trans SZ9.out (by simp [World.setCell, World.drew]))
              clear hcc hM hfr hcl hcb hccb hccb0 hMb hfrb hX
              go_big_region
              all_goals go_wp2
              generalize (((((w9.setCell ⟨gB, on * 4, none⟩ (.int .i64 X.f2)).setCell ⟨gB, on * 4 + 1, none⟩ (.int .i64 X.f1)).setCell ⟨gB, on * 4 + 2, none⟩ (.int .i64 SW)).setCell ⟨gB, on * 4 + 3, none⟩ (.int .i64 SH)).drew) = w10 at RB10 RO10 RS10 KS10 HB10 SZ10 ⊢
              clear RO9 RB9 RS9 KS9 HB9 SZ9 m1 m2 fm2 b0 b1 b2 b3 fb0 fb1 fb2 fb3
              obtain ⟨ce, hcl, hM, hcc, hfr⟩ := Kd.R_elem RS10.out z50 (kn : Int) (by omega) (by omega)
              have hcc0 := hcc
              rw [Int.toNat_natCast] at hM hcc hfr
              rw [← HX.out] at hM
              obtain rfl := k50_openM hM
              have m2 : w10.cell? ⟨gS, kn * 4 + 2, none⟩ = some (.int .i64 X.f2) := hcc 2 _ rfl
              have fm2 : w10.frozen? ⟨gS, kn * 4 + 2, none⟩ = false := hfr 2
              have x0 : w10.cell? ⟨gs, 0, none⟩ = some (.int .i64 SW) := (blk_cell KS10.out 0).trans rfl
              have x1 : w10.cell? ⟨gs, 1, none⟩ = some (.int .i64 SH) := (blk_cell KS10.out 1).trans rfl
              have RS11 := Aside0.mk (show Kd.R k50 50 ((w10.setCell ⟨gS, kn * 4 + 2, none⟩ (.int .i64 (wrap64 (X.f2 + SW)))).drew) s6 _ (.slice (some ⟨gS, 0, none⟩) (kn + 1) cS) (sh1.set kn (⟨X.f0, X.f1, wrap64 (X.f2 + SW), X.f3⟩ : S50)) from Kd.R_drew (Kd.R_seg RS10.out (kn : Int) (by omega) (by omega) (seg := [.int .i64 (wrap64 (X.f2 + SW))]) (j := 2) hcl hcc0 (show 3 ≤ 4 from by decide) (x' := (⟨X.f0, X.f1, wrap64 (X.f2 + SW), X.f3⟩ : S50)) (okp := fun _ => False) (k50_mkM _ _ _ _) (fun _ hk => hk.elim)).1)
              have RO11 := Aside0.mk (Kd.R_drew (Kd.R_far (p := ⟨gS, kn * 4 + 2, none⟩) RO10.out (fun k hk => by show k ≠ gS; have := hk.2; omega) (.int .i64 (wrap64 (X.f2 + SW)))))
              have RB11 := Aside0.mk (Kd.R_drew (Kd.R_far (p := ⟨gS, kn * 4 + 2, none⟩) RB10.out (fun k hk => by show k ≠ gS; have := hk.2; omega) (.int .i64 (wrap64 (X.f2 + SW)))))
              have HB11 := Aside0.mk (below_drew1 (below_set (j := kn * 4 + 2) (v := .int .i64 (wrap64 (X.f2 + SW))) HB10.out (show w3.heap.size ≤ gS by omega)))
              have SZ11 := Aside0.mk (show s6 ≤ ((w10.setCell ⟨gS, kn * 4 + 2, none⟩ (.int .i64 (wrap64 (X.f2 + SW)))).drew).heap.size from Nat.le_trans SZ10.out (by simp [World.setCell, World.drew]))
              clear hcc hM hfr hcl hcc0
              go_big_region
              all_goals go_wp2
              go_roundw
              case rel =>
                have eX : X = (⟨0, hh, 0, 0⟩ : S50) := by rw [HX.out, HKN.out.2, HKN.out.1]; simp
                have e1 : pkRun l0 a1 l0.length (i + 1) = (bs.set on (⟨X.f2, X.f1, SW, SH⟩ : S50), sh1.set kn (⟨X.f0, X.f1, wrap64 (X.f2 + SW), X.f3⟩ : S50), wrap64 (hh + SH)) := by rw [HNX.out, eX, HKN.out.2, HKN.out.1, List.set_append_right _ _ (Nat.le_refl _), Nat.sub_self, Int.toNat_natCast]; rfl
                exact ⟨i + 1, by go_num, by omega, by rw [e1], ⟨RO11.out, by rw [e1]; exact RB11.out, by rw [e1]; exact Kd.R_mono RS11.out (fun _ _ => trivial), HB11.out, SZ11.out⟩⟩
              case measure => simp [intOf]; omega
            · obtain ⟨kn, hkn⟩ := Int.eq_ofNat_of_zero_le (show 0 ≤ idxF (pkP a1 SW) sh by omega)
              have hkl := idxF_lt (pkP a1 SW) sh
              rw [hkn] at HNX hkl hk
              rw [if_neg hk] at HNX
              have HKN := Aside0.mk hkn
              obtain ⟨gS, cS, e9, hgS, _, _⟩ := Kd.R_form RS.out (by omega)
              injection e9 with ea _ ec
              subst ea ec
              clear hkn
              go_wp2_with (first
                | (go_at_call 67; (with_reducible refine (idxFunc_Box 68 #[.pointer (some ⟨wr.heap.size, 0, none⟩), .pointer (some ⟨g3, 0, none⟩)] (pkP a1 SW) (some ⟨gS, 0, none⟩) c9 sh _ EG2.out HP2.out (Kd.R_reads' RS.out).2.2).mono ?_); rintro e w8 ⟨rfl, hb⟩; rw [HKN.out]; have RO8 := Aside0.mk (Kd.R_below RO.out hb); have RB8 := Aside0.mk (Kd.R_below RB.out hb); have RS8 := Aside0.mk (Kd.R_below RS.out hb); have KS8 := Aside0.mk (blk_below KS.out hb); have HB8 := Aside0.mk (below_then HBB.out HBB.out.size hb); have SZ8 := Aside0.mk (Nat.le_trans GS (Nat.le_trans (below_alloc (Below.refl _ _) _).size hb.size)); clear hb RO RB RS KS HBB HP2; generalize wr.heap.size = gs at *; have y0 : w8.cell? ⟨gs, 0, none⟩ = some (.int .i64 SW) := (blk_cell KS8.out 0).trans rfl; have y1 : w8.cell? ⟨gs, 1, none⟩ = some (.int .i64 SH) := (blk_cell KS8.out 1).trans rfl))
              obtain ⟨X, hX⟩ : ∃ X, X = sh.getD kn z50 := ⟨_, rfl⟩
              have HX := Aside0.mk hX
              obtain ⟨ce, hcl, hM, hcc, hfr⟩ := Kd.R_elem RS8.out z50 (kn : Int) (by omega) (by omega)
              rw [Int.toNat_natCast] at hM hcc hfr
              rw [← hX] at hM
              obtain rfl := k50_openM hM
              have m1 : w8.cell? ⟨gS, kn * 4 + 1, none⟩ = some (.int .i64 X.f1) := hcc 1 _ rfl
              have m2 : w8.cell? ⟨gS, kn * 4 + 2, none⟩ = some (.int .i64 X.f2) := hcc 2 _ rfl
              have fm2 : w8.frozen? ⟨gS, kn * 4 + 2, none⟩ = false := hfr 2
              obtain ⟨cb, hcb, hMb, hccb, hfrb⟩ := Kd.R_elem RB8.out z50 (on : Int) ON.out.1 ON.out.2
              have hccb0 := hccb
              rw [Int.toNat_natCast] at hMb hccb hfrb
              obtain rfl := k50_openM hMb
              have b0 : w8.cell? ⟨gB, on * 4, none⟩ = some _ := hccb 0 _ rfl
              have b1 : w8.cell? ⟨gB, on * 4 + 1, none⟩ = some _ := hccb 1 _ rfl
              have b2 : w8.cell? ⟨gB, on * 4 + 2, none⟩ = some _ := hccb 2 _ rfl
              have b3 : w8.cell? ⟨gB, on * 4 + 3, none⟩ = some _ := hccb 3 _ rfl
              have fb0 : w8.frozen? ⟨gB, on * 4, none⟩ = false := hfrb 0
              have fb1 : w8.frozen? ⟨gB, on * 4 + 1, none⟩ = false := hfrb 1
              have fb2 : w8.frozen? ⟨gB, on * 4 + 2, none⟩ = false := hfrb 2
              have fb3 : w8.frozen? ⟨gB, on * 4 + 3, none⟩ = false := hfrb 3
              have RB10 := Aside0.mk (show Kd.R k50 50 (((((w8.setCell ⟨gB, on * 4, none⟩ (.int .i64 X.f2)).setCell ⟨gB, on * 4 + 1, none⟩ (.int .i64 X.f1)).setCell ⟨gB, on * 4 + 2, none⟩ (.int .i64 SW)).setCell ⟨gB, on * 4 + 3, none⟩ (.int .i64 SH)).drew) s5 (fun k => True ∧ k < s6) (.slice (some ⟨gB, 0, none⟩) l0.length c8) (bs.set on (⟨X.f2, X.f1, SW, SH⟩ : S50)) from Kd.R_drew (Kd.R_seg RB8.out (on : Int) ON.out.1 ON.out.2 (seg := [.int .i64 X.f2, .int .i64 X.f1, .int .i64 SW, .int .i64 SH]) (j := 0) hcb hccb0 (show 4 ≤ 4 from by decide) (x' := (⟨X.f2, X.f1, SW, SH⟩ : S50)) (okp := fun _ => False) (k50_mkM _ _ _ _) (fun _ hk => hk.elim)).1)
              have RO10 := Aside0.mk (far4 RO8.out gB (on * 4) (on * 4 + 1) (on * 4 + 2) (on * 4 + 3) (.int .i64 X.f2) (.int .i64 X.f1) (.int .i64 SW) (.int .i64 SH) (fun k hk => by have := hk.2; omega))
              have RS10 := Aside0.mk (far4 (Kd.R_bound RS8.out) gB (on * 4) (on * 4 + 1) (on * 4 + 2) (on * 4 + 3) (.int .i64 X.f2) (.int .i64 X.f1) (.int .i64 SW) (.int .i64 SH) (fun k hk => by have := hk.2.1; omega))
              have KS10 := Aside0.mk (blk_drew (blk_far (blk_far (blk_far (blk_far KS8.out (show gs ≠ gB by omega) (p := ⟨gB, on * 4, none⟩) (.int .i64 X.f2)) (show gs ≠ gB by omega) (p := ⟨gB, on * 4 + 1, none⟩) (.int .i64 X.f1)) (show gs ≠ gB by omega) (p := ⟨gB, on * 4 + 2, none⟩) (.int .i64 SW)) (show gs ≠ gB by omega) (p := ⟨gB, on * 4 + 3, none⟩) (.int .i64 SH)))
              have HB10 := Aside0.mk (below_drew1 (below_set (j := on * 4 + 3) (v := .int .i64 SH) (below_set (j := on * 4 + 2) (v := .int .i64 SW) (below_set (j := on * 4 + 1) (v := .int .i64 X.f1) (below_set (j := on * 4) (v := .int .i64 X.f2) HB8.out (show w3.heap.size ≤ gB by omega)) (show w3.heap.size ≤ gB by omega)) (show w3.heap.size ≤ gB by omega)) (show w3.heap.size ≤ gB by omega)))
              have SZ10 := Aside0.mk (show s6 ≤ (((((w8.setCell ⟨gB, on * 4, none⟩ (.int .i64 X.f2)).setCell ⟨gB, on * 4 + 1, none⟩ (.int .i64 X.f1)).setCell ⟨gB, on * 4 + 2, none⟩ (.int .i64 SW)).setCell ⟨gB, on * 4 + 3, none⟩ (.int .i64 SH)).drew).heap.size from Nat.le_trans SZ8.out (by simp [World.setCell, World.drew]))
              clear hcc hM hfr hcl hcb hccb hccb0 hMb hfrb hX
              go_big_region
              all_goals go_wp2
              generalize (((((w8.setCell ⟨gB, on * 4, none⟩ (.int .i64 X.f2)).setCell ⟨gB, on * 4 + 1, none⟩ (.int .i64 X.f1)).setCell ⟨gB, on * 4 + 2, none⟩ (.int .i64 SW)).setCell ⟨gB, on * 4 + 3, none⟩ (.int .i64 SH)).drew) = w10 at RB10 RO10 RS10 KS10 HB10 SZ10 ⊢
              clear RO8 RB8 RS8 KS8 HB8 SZ8 m1 m2 fm2 b0 b1 b2 b3 fb0 fb1 fb2 fb3
              obtain ⟨ce, hcl, hM, hcc, hfr⟩ := Kd.R_elem RS10.out z50 (kn : Int) (by omega) (by omega)
              have hcc0 := hcc
              rw [Int.toNat_natCast] at hM hcc hfr
              rw [← HX.out] at hM
              obtain rfl := k50_openM hM
              have m2 : w10.cell? ⟨gS, kn * 4 + 2, none⟩ = some (.int .i64 X.f2) := hcc 2 _ rfl
              have fm2 : w10.frozen? ⟨gS, kn * 4 + 2, none⟩ = false := hfr 2
              have x0 : w10.cell? ⟨gs, 0, none⟩ = some (.int .i64 SW) := (blk_cell KS10.out 0).trans rfl
              have x1 : w10.cell? ⟨gs, 1, none⟩ = some (.int .i64 SH) := (blk_cell KS10.out 1).trans rfl
              have RS11 := Aside0.mk (show Kd.R k50 50 ((w10.setCell ⟨gS, kn * 4 + 2, none⟩ (.int .i64 (wrap64 (X.f2 + SW)))).drew) s6 _ (.slice (some ⟨gS, 0, none⟩) sh.length c9) (sh.set kn (⟨X.f0, X.f1, wrap64 (X.f2 + SW), X.f3⟩ : S50)) from Kd.R_drew (Kd.R_seg RS10.out (kn : Int) (by omega) (by omega) (seg := [.int .i64 (wrap64 (X.f2 + SW))]) (j := 2) hcl hcc0 (show 3 ≤ 4 from by decide) (x' := (⟨X.f0, X.f1, wrap64 (X.f2 + SW), X.f3⟩ : S50)) (okp := fun _ => False) (k50_mkM _ _ _ _) (fun _ hk => hk.elim)).1)
              have RO11 := Aside0.mk (Kd.R_drew (Kd.R_far (p := ⟨gS, kn * 4 + 2, none⟩) RO10.out (fun k hk => by show k ≠ gS; have := hk.2; omega) (.int .i64 (wrap64 (X.f2 + SW)))))
              have RB11 := Aside0.mk (Kd.R_drew (Kd.R_far (p := ⟨gS, kn * 4 + 2, none⟩) RB10.out (fun k hk => by show k ≠ gS; have := hk.2; omega) (.int .i64 (wrap64 (X.f2 + SW)))))
              have HB11 := Aside0.mk (below_drew1 (below_set (j := kn * 4 + 2) (v := .int .i64 (wrap64 (X.f2 + SW))) HB10.out (show w3.heap.size ≤ gS by omega)))
              have SZ11 := Aside0.mk (show s6 ≤ ((w10.setCell ⟨gS, kn * 4 + 2, none⟩ (.int .i64 (wrap64 (X.f2 + SW)))).drew).heap.size from Nat.le_trans SZ10.out (by simp [World.setCell, World.drew]))
              clear hcc hM hfr hcl hcc0
              go_big_region
              all_goals go_wp2
              go_roundw
              case rel =>
                have eX : X = rd_T50 sh (kn : Int) := HX.out
                have e1 : pkRun l0 a1 l0.length (i + 1) = (bs.set on (⟨X.f2, X.f1, SW, SH⟩ : S50), sh.set kn (⟨X.f0, X.f1, wrap64 (X.f2 + SW), X.f3⟩ : S50), hh) := by rw [HNX.out, ← eX, Int.toNat_natCast, Int.toNat_natCast]
                exact ⟨i + 1, by go_num, by omega, by rw [e1], ⟨RO11.out, by rw [e1]; exact RB11.out, by rw [e1]; exact Kd.R_mono RS11.out (fun _ _ => trivial), HB11.out, SZ11.out⟩⟩
              case measure => simp [intOf]; omega
          · have q1 : decide ((i : Int) < (l0.length : Int)) = false := decide_eq_false (by omega)
            have hie : i = l0.length := by omega
            subst hie
            go_wp2
            go_ret2
            exact ⟨_, rfl, Kd.R_mono (Kd.R_lower HV.out.2.1 (by have := HB3.out.size; omega)) (fun _ _ => trivial), below_then HB3.out HB3.out.size HV.out.2.2.2.1⟩
end Go.Proofs.Ytgfjccegehnjcaa.Q

namespace Go.Proofs.Ytgfjccegehnjcaa.Q
open Go.RowKit Go.Proofs.YtgfjccegehnjcaaW.PrintWords Go.Proofs.YtgfjccegehnjcaaW.PrintLast Go.Proofs.YtgfjccegehnjcaaW.PrintMore
attribute [local go_sem] max2_int min2_int max_two min_two max_three min_three max_four min_four
set_option linter.unusedVariables false
set_option linter.unusedSimpArgs false
mutual
def laws_FnPackSpritesHeight.j0 : Nat → List (S42) → Int → List (S50) → Int → List (S50) → Int → Bool → Option (Bool)
  | 0, _, _, _, _, _, _, _ => none
  | k + 1, x3, x4, x5, x6, x7, x8, x43 => if x43 = true then ((laws_equalBoxes.f k x5 x7).bind fun t15014 => (if t15014 = true then (some (x6 == x8)) else (some false))) else (laws_FnPackSpritesHeight.l0 k x3 x4 x6 0 0)
def laws_FnPackSpritesHeight.l0 : Nat → List (S42) → Int → Int → Int → Int → Option (Bool)
  | 0, _, _, _, _, _ => none
  | k + 1, x3, x4, x6, x9, x10 => if x10 < (x3.length : Int) then (if 0 ≤ x10 then (laws_FnPackSpritesHeight.l0 k x3 x4 x6 (wrap64 (x9 + ((rd_T42 x3 x10).f1))) (wrap64 (x10 + 1))) else (none)) else ((impl_LeastHeight.f k x3 x4).bind fun t15016 => (if x6 ≥ t15016 then (some (decide (x6 ≤ x9))) else (some false)))
end
def laws_FnPackSpritesHeight.f (k : Nat) (l0 : List Int) : Option (Bool) := if (l0.length : Int) > 1048576 then (some true) else ((spec_DrawPackSprites.f k l0).bind fun bt15001 => ((impl_PackSprites.f bt15001.1 bt15001.2).bind fun bt15005 => ((spec_PackSprites.f k bt15001.1 bt15001.2).bind fun bt15009 => ((laws_equalBoxes.f k bt15005.1 bt15009.1).bind fun t15013 => (if t15013 = true then (if bt15005.2 = bt15009.2 then (laws_FnPackSpritesHeight.j0 k bt15001.1 bt15001.2 bt15005.1 bt15005.2 bt15009.1 bt15009.2 (decide (bt15005.2 < 0))) else (laws_FnPackSpritesHeight.j0 k bt15001.1 bt15001.2 bt15005.1 bt15005.2 bt15009.1 bt15009.2 true)) else (laws_FnPackSpritesHeight.j0 k bt15001.1 bt15001.2 bt15005.1 bt15005.2 bt15009.1 bt15009.2 true))))))
set_option maxHeartbeats 8000000 in
set_option maxRecDepth 100000 in
theorem laws_FnPackSpritesHeight.calls (k : Nat) (A0 : Option Addr) (c0 : Nat) (l0 : List Int) (r : Bool) (w : World) (hr0 : Kd.C (Kd.int .u8) w A0 l0.length l0) (hc0 : l0.length ≤ c0) (h : laws_FnPackSpritesHeight.f k l0 = some r) (hrt : r = true) :
    Calls Try.prog 14 #[.slice A0 l0.length c0] w fun e w' => e = .returned (.bool r) ∧ Below w.heap.size w w' := by
  have HRT := Aside0.mk hrt
  clear hrt
  have HR0 := Aside0.mk hr0
  have HC0 := Aside0.mk hc0
  clear hr0 hc0
  have HB := Aside0.mk (Below.refl w.heap.size w)
  have H : (if (l0.length : Int) > 1048576 then (some true) else ((spec_DrawPackSprites.f k l0).bind fun bt15001 => ((impl_PackSprites.f bt15001.1 bt15001.2).bind fun bt15005 => ((spec_PackSprites.f k bt15001.1 bt15001.2).bind fun bt15009 => ((laws_equalBoxes.f k bt15005.1 bt15009.1).bind fun t15013 => (if t15013 = true then (if bt15005.2 = bt15009.2 then (laws_FnPackSpritesHeight.j0 k bt15001.1 bt15001.2 bt15005.1 bt15005.2 bt15009.1 bt15009.2 (decide (bt15005.2 < 0))) else (laws_FnPackSpritesHeight.j0 k bt15001.1 bt15001.2 bt15005.1 bt15005.2 bt15009.1 bt15009.2 true)) else (laws_FnPackSpritesHeight.j0 k bt15001.1 bt15001.2 bt15005.1 bt15005.2 bt15009.1 bt15009.2 true))))))) = some r := h
  clear h
  by_cases c2 : (l0.length : Int) > 1048576
  · rw [if_pos c2] at H
    have c2b0 : decide (1048576 < (l0.length : Int)) = true := decide_eq_true c2
    have c2b1 : decide (1048576 < l0.length) = true := decide_eq_true (by omega)
    clear c2
    obtain rfl := Option.some.inj H
    go_enter Try.func14, Try.ntmps14
    go_wp2
    go_ret
    exact ⟨by first | rfl | (simp [errW_none, errW_some] <;> rfl) | (simp [*, errW_none, errW_some] <;> rfl), by repeat (first | (with_reducible first | exact HB.out | apply below_alloc | apply pw_below_drewN | apply below_drew1) | exact HB.out)⟩
  · rw [if_neg c2] at H
    have c2b0 : decide (1048576 < (l0.length : Int)) = false := decide_eq_false c2
    have c2b1 : decide (1048576 < l0.length) = false := decide_eq_false (by omega)
    clear c2
    replace H := Option.bind_eq_some_iff.mp H
    obtain ⟨⟨t15001, t15002⟩, A30, H⟩ := H
    replace H : ((impl_PackSprites.f t15001 t15002).bind fun bt15005 => ((spec_PackSprites.f k t15001 t15002).bind fun bt15009 => ((laws_equalBoxes.f k bt15005.1 bt15009.1).bind fun t15013 => (if t15013 = true then (if bt15005.2 = bt15009.2 then (laws_FnPackSpritesHeight.j0 k t15001 t15002 bt15005.1 bt15005.2 bt15009.1 bt15009.2 (decide (bt15005.2 < 0))) else (laws_FnPackSpritesHeight.j0 k t15001 t15002 bt15005.1 bt15005.2 bt15009.1 bt15009.2 true)) else (laws_FnPackSpritesHeight.j0 k t15001 t15002 bt15005.1 bt15005.2 bt15009.1 bt15009.2 true))))) = some r := H
    have A3 := Aside0.mk A30
    clear A30
    replace H := Option.bind_eq_some_iff.mp H
    obtain ⟨⟨t15005, t15006⟩, A40, H⟩ := H
    replace H : ((spec_PackSprites.f k t15001 t15002).bind fun bt15009 => ((laws_equalBoxes.f k t15005 bt15009.1).bind fun t15013 => (if t15013 = true then (if t15006 = bt15009.2 then (laws_FnPackSpritesHeight.j0 k t15001 t15002 t15005 t15006 bt15009.1 bt15009.2 (decide (t15006 < 0))) else (laws_FnPackSpritesHeight.j0 k t15001 t15002 t15005 t15006 bt15009.1 bt15009.2 true)) else (laws_FnPackSpritesHeight.j0 k t15001 t15002 t15005 t15006 bt15009.1 bt15009.2 true)))) = some r := H
    have A4 := Aside0.mk A40
    clear A40
    replace H := Option.bind_eq_some_iff.mp H
    obtain ⟨⟨t15009, t15010⟩, A50, H⟩ := H
    replace H : ((laws_equalBoxes.f k t15005 t15009).bind fun t15013 => (if t15013 = true then (if t15006 = t15010 then (laws_FnPackSpritesHeight.j0 k t15001 t15002 t15005 t15006 t15009 t15010 (decide (t15006 < 0))) else (laws_FnPackSpritesHeight.j0 k t15001 t15002 t15005 t15006 t15009 t15010 true)) else (laws_FnPackSpritesHeight.j0 k t15001 t15002 t15005 t15006 t15009 t15010 true))) = some r := H
    have A5 := Aside0.mk A50
    clear A50
    have HC6 := Aside0.mk H
    clear H
    go_enter Try.func14, Try.ntmps14
    go_upto_region 6 with (first | ((with_reducible refine gate_callee (f := 33) rfl ?_); refine goesL_ (some 16) rfl rfl Try.func33 (by kernel_rfl) rfl #[.slice A0 l0.length c0] rfl (by (try simp only [List.map_toArray, List.map_cons, List.map_nil]); first | done | rfl | (simp only [List.length_drop, List.length_take]; rfl)) ?_; (with_reducible refine (spec_DrawPackSprites.calls k _ _ l0 t15001 t15002 _ ?side1 ?side2 A3.out).mono ?_); (case side1 => repeat (first | exact HR0.out | (with_reducible refine Kd.C_alloc ?_ _) | (with_reducible refine Kd.C_drewN ?_ _) | (with_reducible refine Kd.C_drew ?_))); (case side2 => exact HC0.out); rintro e w7 ⟨v15003, rfl, ho0, hb⟩; refine ⟨_, rfl, ?_⟩; have n0_ := Aside0.mk (Kd.R_lower ho0 (below_size (by repeat (first | (with_reducible first | exact HB.out | apply below_alloc | apply pw_below_drewN | apply below_drew1) | exact HB.out)))); have n1_ := Aside0.mk (below_step (by repeat (first | (with_reducible first | exact HB.out | apply below_alloc | apply pw_below_drewN | apply below_drew1) | exact HB.out)) hb); clear HB; have HO15004 := n0_; have HB := n1_; clear n0_ n1_; (try clear hb); (try clear hb2); (try clear hk); (try clear hi); (try clear ho0); obtain ⟨Ao8, co8, eo8⟩ := Kd.R_slice HO15004.out; subst eo8) | ((with_reducible refine gate_callee (f := 34) rfl ?_); refine goesL_ (some 22) rfl rfl Try.func34 (by kernel_rfl) rfl #[.slice Ao8 t15001.length co8, .int .i64 t15002] rfl (by (try simp only [List.map_toArray, List.map_cons, List.map_nil]); first | done | rfl | (simp only [List.length_drop, List.length_take]; rfl)) ?_; (with_reducible refine (impl_PackSprites.calls _ _ t15001 t15002 t15005 t15006 _ ?side1 ?side2 A4.out).mono ?_); (case side1 => repeat (first | exact (Kd.R_reads' HO15004.out).2.2 | (with_reducible refine Kd.C_alloc ?_ _) | (with_reducible refine Kd.C_drewN ?_ _) | (with_reducible refine Kd.C_drew ?_))); (case side2 => exact (Kd.R_reads' HO15004.out).2.1); rintro e w9 ⟨v15007, rfl, ho0, hb⟩; refine ⟨_, rfl, ?_⟩; have n0_ := Aside0.mk (Kd.R_below (by (with_reducible repeat (first | apply Kd.R_alloc | apply Kd.R_drewN | apply Kd.R_drew)); exact HO15004.out) hb); have n1_ := Aside0.mk (Kd.R_lower ho0 (below_size (by repeat (first | (with_reducible first | exact HB.out | apply below_alloc | apply pw_below_drewN | apply below_drew1) | exact HB.out)))); have n2_ := Aside0.mk (below_step (by repeat (first | (with_reducible first | exact HB.out | apply below_alloc | apply pw_below_drewN | apply below_drew1) | exact HB.out)) hb); clear HO15004; clear HB; have HO15004 := n0_; have HO15008 := n1_; have HB := n2_; clear n0_ n1_ n2_; (try clear hb); (try clear hb2); (try clear hk); (try clear hi); (try clear ho0)) | ((with_reducible refine gate_callee (f := 35) rfl ?_); refine goesL_ (some 28) rfl rfl Try.func35 (by kernel_rfl) rfl #[.slice Ao8 t15001.length co8, .int .i64 t15002] rfl (by (try simp only [List.map_toArray, List.map_cons, List.map_nil]); first | done | rfl | (simp only [List.length_drop, List.length_take]; rfl)) ?_; (with_reducible refine (spec_PackSprites.calls k _ _ t15001 t15002 t15009 t15010 _ ?side1 ?side2 A5.out).mono ?_); (case side1 => repeat (first | exact (Kd.R_reads' HO15004.out).2.2 | (with_reducible refine Kd.C_alloc ?_ _) | (with_reducible refine Kd.C_drewN ?_ _) | (with_reducible refine Kd.C_drew ?_))); (case side2 => exact (Kd.R_reads' HO15004.out).2.1); rintro e w10 ⟨v15011, rfl, ho0, hb⟩; refine ⟨_, rfl, ?_⟩; have n0_ := Aside0.mk (Kd.R_below (by (with_reducible repeat (first | apply Kd.R_alloc | apply Kd.R_drewN | apply Kd.R_drew)); exact HO15004.out) hb); have n1_ := Aside0.mk (Kd.R_elder' (by (with_reducible repeat (first | apply Kd.R_alloc | apply Kd.R_drewN | apply Kd.R_drew)); exact HO15008.out) (Kd.R_base ho0) hb); have n2_ := Aside0.mk (Kd.R_lower (Kd.R_new' ho0 (Kd.R_lt (by (with_reducible repeat (first | apply Kd.R_alloc | apply Kd.R_drewN | apply Kd.R_drew)); exact HO15008.out))) (below_size (by repeat (first | (with_reducible first | exact HB.out | apply below_alloc | apply pw_below_drewN | apply below_drew1) | exact HB.out)))); have n3_ := Aside0.mk (below_step (by repeat (first | (with_reducible first | exact HB.out | apply below_alloc | apply pw_below_drewN | apply below_drew1) | exact HB.out)) hb); clear HO15004; clear HO15008; clear HB; have HO15004 := n0_; have HO15008 := n1_; have HO15012 := n2_; have HB := n3_; clear n0_ n1_ n2_ n3_; (try clear hb); (try clear hb2); (try clear hk); (try clear hi); (try clear ho0)))
    (try simp only [Act.put, List.setIfInBounds_toArray, List.set_cons_zero, List.set_cons_succ])
    go_cut [43] (fun v43 wc => ∃ (kq : Nat) (x43_5 : Bool), v43 = .bool x43_5 ∧ Aside0 (laws_FnPackSpritesHeight.j0 kq t15001 t15002 t15005 t15006 t15009 t15010 x43_5 = some r) ∧ Aside0 (kq ≤ k) ∧ Aside0 (Kd.R k42 42 wc w.heap.size (fun _ => True) (.slice Ao8 t15001.length co8) t15001) ∧ Aside0 (Kd.R k50 50 wc w.heap.size (fun k_ => some k_ ≠ (v15011 : Value).ownBlock) v15007 t15005) ∧ Aside0 (Kd.R k50 50 wc w.heap.size (fun k_ => some k_ ≠ (v15007 : Value).ownBlock) v15011 t15009) ∧ Aside0 (Below w.heap.size w wc))
    case first =>
      have H := HC6.out
      clear HC6
      replace H := Option.bind_eq_some_iff.mp H
      obtain ⟨t15013, A110, H⟩ := H
      replace H : (if t15013 = true then (if t15006 = t15010 then (laws_FnPackSpritesHeight.j0 k t15001 t15002 t15005 t15006 t15009 t15010 (decide (t15006 < 0))) else (laws_FnPackSpritesHeight.j0 k t15001 t15002 t15005 t15006 t15009 t15010 true)) else (laws_FnPackSpritesHeight.j0 k t15001 t15002 t15005 t15006 t15009 t15010 true)) = some r := H
      have A11 := Aside0.mk A110
      clear A110
      by_cases c12 : t15013 = true
      · subst c12
        have H1 : (if t15006 = t15010 then (laws_FnPackSpritesHeight.j0 k t15001 t15002 t15005 t15006 t15009 t15010 (decide (t15006 < 0))) else (laws_FnPackSpritesHeight.j0 k t15001 t15002 t15005 t15006 t15009 t15010 true)) = some r := by rw [if_pos rfl] at H; exact H
        clear H
        have H := H1
        clear H1
        by_cases c13 : t15006 = t15010
        · rw [if_pos c13] at H
          have c13b0 : (t15006 == t15010) = true := beq_iff_eq.mpr c13
          have c13b1 : (t15006 != t15010) = false := bne_eq_false_iff_eq.mpr c13
          clear c13
          (first | rw [c13b0] | (simp only [i64_w, i32_w]; rw [c13b0]) | skip)
          have H' := Aside0.mk H
          clear H
          obtain ⟨Ao14, co14, eo14⟩ := Kd.R_slice HO15008.out
          subst eo14
          obtain ⟨Ao15, co15, eo15⟩ := Kd.R_slice HO15012.out
          subst eo15
          go_wp2_with (first | ((with_reducible refine gate_callee (f := 36) rfl ?_); refine goesL_ (some 33) rfl rfl Try.func36 (by kernel_rfl) rfl #[.slice Ao14 t15005.length co14, .slice Ao15 t15009.length co15] rfl (by (try simp only [List.map_toArray, List.map_cons, List.map_nil]); first | done | rfl | (simp only [List.length_drop, List.length_take]; rfl)) ?_; (with_reducible refine (laws_equalBoxes.calls k _ _ t15005 _ _ t15009 true _ ?side1 ?side2 ?side3 ?side4 A11.out).mono ?_); (case side1 => repeat (first | exact (Kd.R_reads' HO15008.out).2.2 | (with_reducible refine Kd.C_alloc ?_ _) | (with_reducible refine Kd.C_drewN ?_ _) | (with_reducible refine Kd.C_drew ?_))); (case side2 => exact (Kd.R_reads' HO15008.out).2.1); (case side3 => repeat (first | exact (Kd.R_reads' HO15012.out).2.2 | (with_reducible refine Kd.C_alloc ?_ _) | (with_reducible refine Kd.C_drewN ?_ _) | (with_reducible refine Kd.C_drew ?_))); (case side4 => exact (Kd.R_reads' HO15012.out).2.1); rintro e w' ⟨rfl, ⟨nd, rfl⟩⟩; refine ⟨_, rfl, ?_⟩))
          go_meet
          case rel => exact ⟨_, (decide (t15006 < 0)), (by first | rfl | (simp; done) | (simp [*]; done)), H', ⟨by first | omega | exact Nat.le_refl _⟩, ⟨by (with_reducible repeat (first | apply Kd.R_alloc | apply Kd.R_drewN | apply Kd.R_drew)); exact HO15004.out⟩, ⟨by (with_reducible repeat (first | apply Kd.R_alloc | apply Kd.R_drewN | apply Kd.R_drew)); exact Kd.R_mono HO15008.out (fun _ hk => hk.2)⟩, ⟨by (with_reducible repeat (first | apply Kd.R_alloc | apply Kd.R_drewN | apply Kd.R_drew)); exact Kd.R_mono HO15012.out (fun _ hk => hk.2)⟩, ⟨by repeat (first | (with_reducible first | exact HB.out | apply below_alloc | apply pw_below_drewN | apply below_drew1) | exact HB.out)⟩⟩
        · rw [if_neg c13] at H
          have c13b0 : (t15006 == t15010) = false := beq_eq_false_iff_ne.mpr c13
          have c13b1 : (t15006 != t15010) = true := bne_iff_ne.mpr c13
          (first | rw [c13b0] | (simp only [i64_w, i32_w]; rw [c13b0]) | skip)
          have H' := Aside0.mk H
          clear H
          obtain ⟨Ao16, co16, eo16⟩ := Kd.R_slice HO15008.out
          subst eo16
          obtain ⟨Ao17, co17, eo17⟩ := Kd.R_slice HO15012.out
          subst eo17
          go_wp2_with (first | ((with_reducible refine gate_callee (f := 36) rfl ?_); refine goesL_ (some 33) rfl rfl Try.func36 (by kernel_rfl) rfl #[.slice Ao16 t15005.length co16, .slice Ao17 t15009.length co17] rfl (by (try simp only [List.map_toArray, List.map_cons, List.map_nil]); first | done | rfl | (simp only [List.length_drop, List.length_take]; rfl)) ?_; (with_reducible refine (laws_equalBoxes.calls k _ _ t15005 _ _ t15009 true _ ?side1 ?side2 ?side3 ?side4 A11.out).mono ?_); (case side1 => repeat (first | exact (Kd.R_reads' HO15008.out).2.2 | (with_reducible refine Kd.C_alloc ?_ _) | (with_reducible refine Kd.C_drewN ?_ _) | (with_reducible refine Kd.C_drew ?_))); (case side2 => exact (Kd.R_reads' HO15008.out).2.1); (case side3 => repeat (first | exact (Kd.R_reads' HO15012.out).2.2 | (with_reducible refine Kd.C_alloc ?_ _) | (with_reducible refine Kd.C_drewN ?_ _) | (with_reducible refine Kd.C_drew ?_))); (case side4 => exact (Kd.R_reads' HO15012.out).2.1); rintro e w' ⟨rfl, ⟨nd, rfl⟩⟩; refine ⟨_, rfl, ?_⟩))
          go_meet
          case rel => exact ⟨_, (true), (by first | rfl | (simp; done) | (simp [*]; done)), H', ⟨by first | omega | exact Nat.le_refl _⟩, ⟨by (with_reducible repeat (first | apply Kd.R_alloc | apply Kd.R_drewN | apply Kd.R_drew)); exact HO15004.out⟩, ⟨by (with_reducible repeat (first | apply Kd.R_alloc | apply Kd.R_drewN | apply Kd.R_drew)); exact Kd.R_mono HO15008.out (fun _ hk => hk.2)⟩, ⟨by (with_reducible repeat (first | apply Kd.R_alloc | apply Kd.R_drewN | apply Kd.R_drew)); exact Kd.R_mono HO15012.out (fun _ hk => hk.2)⟩, ⟨by repeat (first | (with_reducible first | exact HB.out | apply below_alloc | apply pw_below_drewN | apply below_drew1) | exact HB.out)⟩⟩
      · replace c12 := Bool.eq_false_iff.mpr c12
        subst c12
        have H1 : (laws_FnPackSpritesHeight.j0 k t15001 t15002 t15005 t15006 t15009 t15010 true) = some r := by rw [if_neg (show ¬ (false = true) by decide)] at H; exact H
        clear H
        have H := H1
        clear H1
        have H' := Aside0.mk H
        clear H
        obtain ⟨Ao18, co18, eo18⟩ := Kd.R_slice HO15008.out
        subst eo18
        obtain ⟨Ao19, co19, eo19⟩ := Kd.R_slice HO15012.out
        subst eo19
        go_wp2_with (first | ((with_reducible refine gate_callee (f := 36) rfl ?_); refine goesL_ (some 33) rfl rfl Try.func36 (by kernel_rfl) rfl #[.slice Ao18 t15005.length co18, .slice Ao19 t15009.length co19] rfl (by (try simp only [List.map_toArray, List.map_cons, List.map_nil]); first | done | rfl | (simp only [List.length_drop, List.length_take]; rfl)) ?_; (with_reducible refine (laws_equalBoxes.calls k _ _ t15005 _ _ t15009 false _ ?side1 ?side2 ?side3 ?side4 A11.out).mono ?_); (case side1 => repeat (first | exact (Kd.R_reads' HO15008.out).2.2 | (with_reducible refine Kd.C_alloc ?_ _) | (with_reducible refine Kd.C_drewN ?_ _) | (with_reducible refine Kd.C_drew ?_))); (case side2 => exact (Kd.R_reads' HO15008.out).2.1); (case side3 => repeat (first | exact (Kd.R_reads' HO15012.out).2.2 | (with_reducible refine Kd.C_alloc ?_ _) | (with_reducible refine Kd.C_drewN ?_ _) | (with_reducible refine Kd.C_drew ?_))); (case side4 => exact (Kd.R_reads' HO15012.out).2.1); rintro e w' ⟨rfl, ⟨nd, rfl⟩⟩; refine ⟨_, rfl, ?_⟩))
        go_meet
        case rel => exact ⟨_, (true), (by first | rfl | (simp; done) | (simp [*]; done)), H', ⟨by first | omega | exact Nat.le_refl _⟩, ⟨by (with_reducible repeat (first | apply Kd.R_alloc | apply Kd.R_drewN | apply Kd.R_drew)); exact HO15004.out⟩, ⟨by (with_reducible repeat (first | apply Kd.R_alloc | apply Kd.R_drewN | apply Kd.R_drew)); exact Kd.R_mono HO15008.out (fun _ hk => hk.2)⟩, ⟨by (with_reducible repeat (first | apply Kd.R_alloc | apply Kd.R_drewN | apply Kd.R_drew)); exact Kd.R_mono HO15012.out (fun _ hk => hk.2)⟩, ⟨by repeat (first | (with_reducible first | exact HB.out | apply below_alloc | apply pw_below_drewN | apply below_drew1) | exact HB.out)⟩⟩
    case rest =>
      clear HC6
      try clear c1
      try clear c2
      try clear c2b0
      try clear c2b1
      try clear p2
      try clear c3
      try clear c12
      try clear c13
      try clear c13b0
      try clear c13b1
      try clear c14
      obtain ⟨kq, x43_5, rfl, HA, HJ5, HO_3, HO_5, HO_7, HB⟩ := hcut
      cases kq with
      | zero => exact absurd HA.out (by simp [laws_FnPackSpritesHeight.j0])
      | succ kj5 =>
        have H := HA.out
        clear HA
        simp only [laws_FnPackSpritesHeight.j0] at H
        by_cases c20 : x43_5 = true
        · subst c20
          have H1 : ((laws_equalBoxes.f kj5 t15005 t15009).bind fun t15014 => (if t15014 = true then (some (t15006 == t15010)) else (some false))) = some r := by rw [if_pos rfl] at H; exact H
          clear H
          have H := H1
          clear H1
          replace H := Option.bind_eq_some_iff.mp H
          obtain ⟨t15014, A210, H⟩ := H
          replace H : (if t15014 = true then (some (t15006 == t15010)) else (some false)) = some r := H
          have A21 := Aside0.mk A210
          clear A210
          by_cases c22 : t15014 = true
          · subst c22
            have H1 : (some (t15006 == t15010)) = some r := by rw [if_pos rfl] at H; exact H
            clear H
            have H := H1
            clear H1
            obtain rfl := Option.some.inj H
            obtain ⟨Ao23, co23, eo23⟩ := Kd.R_slice HO_5.out
            subst eo23
            obtain ⟨Ao24, co24, eo24⟩ := Kd.R_slice HO_7.out
            subst eo24
            go_wp2_with (first | ((with_reducible refine gate_callee (f := 36) rfl ?_); refine goesL_ (some 46) rfl rfl Try.func36 (by kernel_rfl) rfl #[.slice Ao23 t15005.length co23, .slice Ao24 t15009.length co24] rfl (by (try simp only [List.map_toArray, List.map_cons, List.map_nil]); first | done | rfl | (simp only [List.length_drop, List.length_take]; rfl)) ?_; (with_reducible refine (laws_equalBoxes.calls kj5 _ _ t15005 _ _ t15009 true _ ?side1 ?side2 ?side3 ?side4 A21.out).mono ?_); (case side1 => repeat (first | exact (Kd.R_reads' HO_5.out).2.2 | (with_reducible refine Kd.C_alloc ?_ _) | (with_reducible refine Kd.C_drewN ?_ _) | (with_reducible refine Kd.C_drew ?_))); (case side2 => exact (Kd.R_reads' HO_5.out).2.1); (case side3 => repeat (first | exact (Kd.R_reads' HO_7.out).2.2 | (with_reducible refine Kd.C_alloc ?_ _) | (with_reducible refine Kd.C_drewN ?_ _) | (with_reducible refine Kd.C_drew ?_))); (case side4 => exact (Kd.R_reads' HO_7.out).2.1); rintro e w' ⟨rfl, ⟨nd, rfl⟩⟩; refine ⟨_, rfl, ?_⟩))
            go_ret
            exact ⟨by first | rfl | (simp [errW_none, errW_some] <;> rfl) | (simp [*, errW_none, errW_some] <;> rfl), by repeat (first | (with_reducible first | exact HB.out | apply below_alloc | apply pw_below_drewN | apply below_drew1) | exact HB.out)⟩
          · replace c22 := Bool.eq_false_iff.mpr c22
            subst c22
            have H1 : (some false) = some r := by rw [if_neg (show ¬ (false = true) by decide)] at H; exact H
            clear H
            have H := H1
            clear H1
            exact absurd ((Option.some.inj H).trans HRT.out) (by decide)
        · replace c20 := Bool.eq_false_iff.mpr c20
          subst c20
          have H1 : (laws_FnPackSpritesHeight.l0 kj5 t15001 t15002 t15006 0 0) = some r := by rw [if_neg (show ¬ (false = true) by decide)] at H; exact H
          clear H
          have H := H1
          clear H1
          have H' := Aside0.mk H
          clear H
          go_wp2
          go_loopg [9, 10] kj5 (fun kq v9 v10 w' => ∃ (x9_2 : Int) (x10_2 : Int), v9 = .int .i64 x9_2 ∧ v10 = .int .i64 x10_2 ∧ Aside0 (laws_FnPackSpritesHeight.l0 kq t15001 t15002 t15006 x9_2 x10_2 = some r) ∧ Aside0 (kq ≤ kj5) ∧ Aside0 (Kd.R k42 42 w' w.heap.size (fun _ => True) (.slice Ao8 t15001.length co8) t15001) ∧ Aside0 (Below w.heap.size w w'))
          case atStart => exact ⟨(0), (0), (by first | rfl | (simp; done) | (simp [*]; done)), (by first | rfl | (simp; done) | (simp [*]; done)), H', ⟨Nat.le_refl _⟩, ⟨by (with_reducible repeat (first | apply Kd.R_alloc | apply Kd.R_drewN | apply Kd.R_drew)); exact HO_3.out⟩, ⟨by repeat (first | (with_reducible first | exact HB.out | apply below_alloc | apply pw_below_drewN | apply below_drew1) | exact HB.out)⟩⟩
          case round =>
            clear H'
            try clear c1
            try clear c2
            try clear c2b0
            try clear c2b1
            try clear p2
            try clear c3
            try clear c12
            try clear c13
            try clear c13b0
            try clear c13b1
            try clear c14
            try clear c20
            try clear c22
            try clear p2
            obtain ⟨x9_2, x10_2, rfl, rfl, HA, HK2, HO_3, HB⟩ := hrel
            cases gk with
            | zero => exact absurd HA.out (by simp [laws_FnPackSpritesHeight.l0])
            | succ k2 =>
              have H := HA.out
              clear HA
              simp only [laws_FnPackSpritesHeight.l0] at H
              by_cases c27 : x10_2 < (t15001.length : Int)
              · rw [if_pos c27] at H
                have c27b0 : decide (x10_2 < (t15001.length : Int)) = true := decide_eq_true c27
                clear c27
                by_cases c28 : 0 ≤ x10_2
                · rw [if_pos c28] at H
                  have c28b0 : decide (0 ≤ x10_2) = true := decide_eq_true c28
                  clear c28
                  have H' := Aside0.mk H
                  clear H
                  have p15015 : 0 ≤ (x10_2 : Int) := of_decide_eq_true (by first | (with_reducible assumption) | assumption)
                  have q15015 : x10_2 < (t15001.length : Int) := of_decide_eq_true (by first | (with_reducible assumption) | assumption)
                  obtain ⟨ad15015, e15015, hx15015_0, hx15015_1⟩ := at_T42 (Kd.R_reads' HO_3.out).2.2 x10_2 p15015 q15015
                  cases e15015
                  replace p15015 := eq_true p15015
                  replace q15015 := eq_true q15015
                  go_wp2
                  go_roundg k2
                  case measure => have := HJ5.out; have := HK2.out; omega
                  case rel => exact ⟨(wrap64 (x9_2 + ((rd_T42 t15001 x10_2).f1))), (wrap64 (x10_2 + 1)), (by first | rfl | (simp; done) | (simp [*]; done)), (by first | rfl | (simp; done) | (simp [*]; done)), H', ⟨by have := HJ5.out; have := HK2.out; omega⟩, ⟨by (with_reducible repeat (first | apply Kd.R_alloc | apply Kd.R_drewN | apply Kd.R_drew)); exact HO_3.out⟩, ⟨by repeat (first | (with_reducible first | exact HB.out | apply below_alloc | apply pw_below_drewN | apply below_drew1) | exact HB.out)⟩⟩
                · rw [if_neg c28] at H
                  exact absurd H (by simp)
              · rw [if_neg c27] at H
                have c27b0 : decide (x10_2 < (t15001.length : Int)) = false := decide_eq_false c27
                clear c27
                replace H := Option.bind_eq_some_iff.mp H
                obtain ⟨t15016, A290, H⟩ := H
                replace H : (if t15006 ≥ t15016 then (some (decide (t15006 ≤ x9_2))) else (some false)) = some r := H
                have A29 := Aside0.mk A290
                clear A290
                by_cases c30 : t15006 ≥ t15016
                · rw [if_pos c30] at H
                  have c30b0 : decide (t15016 ≤ t15006) = true := decide_eq_true c30
                  clear c30
                  obtain rfl := Option.some.inj H
                  go_wp2_with (first | ((with_reducible refine gate_callee (f := 27) rfl ?_); refine goesL_ (some 68) rfl rfl Try.func27 (by kernel_rfl) rfl #[.slice Ao8 t15001.length co8, .int .i64 t15002] rfl (by (try simp only [List.map_toArray, List.map_cons, List.map_nil]); first | done | rfl | (simp only [List.length_drop, List.length_take]; rfl)) ?_; (with_reducible refine (impl_LeastHeight.calls k2 _ _ t15001 t15002 t15016 _ ?side1 ?side2 A29.out).mono ?_); (case side1 => repeat (first | exact (Kd.R_reads' HO_3.out).2.2 | (with_reducible refine Kd.C_alloc ?_ _) | (with_reducible refine Kd.C_drewN ?_ _) | (with_reducible refine Kd.C_drew ?_))); (case side2 => exact (Kd.R_reads' HO_3.out).2.1); rintro e w31 ⟨rfl, hb⟩; refine ⟨_, rfl, ?_⟩; have n0_ := Aside0.mk (Kd.R_below (by (with_reducible repeat (first | apply Kd.R_alloc | apply Kd.R_drewN | apply Kd.R_drew)); exact HO_3.out) hb); have n1_ := Aside0.mk (below_step (by repeat (first | (with_reducible first | exact HB.out | apply below_alloc | apply pw_below_drewN | apply below_drew1) | exact HB.out)) hb); clear HO_3; clear HB; have HO_3 := n0_; have HB := n1_; clear n0_ n1_; (try clear hb); (try clear hb2); (try clear hk); (try clear hi)))
                  go_ret
                  exact ⟨by first | rfl | (simp [errW_none, errW_some] <;> rfl) | (simp [*, errW_none, errW_some] <;> rfl), by repeat (first | (with_reducible first | exact HB.out | apply below_alloc | apply pw_below_drewN | apply below_drew1) | exact HB.out)⟩
                · rw [if_neg c30] at H
                  have c30b0 : decide (t15016 ≤ t15006) = false := decide_eq_false c30
                  clear c30
                  exact absurd ((Option.some.inj H).trans HRT.out) (by decide)

/-- THE ONE PURE STATEMENT of laws_FnPackSpritesHeight: yours. -/
def laws_FnPackSpritesHeight.Pure : Prop := ∀ (l0 : List Int), l0.length ≤ maxLen → l0.length * 1 ≤ 140737488351232 → (∀ x ∈ l0, (Lit.int .u8 x).wf = true) → ∃ k, laws_FnPackSpritesHeight.f k l0 = some true
theorem laws_FnPackSpritesHeight.walk (P : laws_FnPackSpritesHeight.Pure) (a0 : Option Addr) (len0 cap0 : Nat) (z0 : List Int) (w : World) (w0 : (a0 = none ∧ len0 = 0 ∧ cap0 = 0 ∧ z0 = []) ∨ ∃ x, a0 = some x ∧ len0 ≤ cap0 ∧ cap0 ≤ maxLen ∧ z0.length = cap0 ∧ (∀ i, i < z0.length → w.cell? (x.add i) = some (.int .u8 (z0.getD i 0))) ∧ ∀ n ∈ z0, (Lit.int .u8 n).wf = true) (y0 : len0 * 1 ≤ 140737488351232) :
    Calls Try.prog 14 #[.slice a0 len0 cap0] w fun e w' => e = .returned (.bool true) ∧ Below w.heap.size w w' := by
  obtain ⟨l0, rfl, hr0, hm0, hw0, hc0⟩ := ReadsInt.ofRowC w0
  obtain ⟨k, h⟩ := P l0 hm0 y0 hw0
  refine (laws_FnPackSpritesHeight.calls k _ _ l0 true w (Kd.C_of_reads (d := (0 : Int)) (h1 := fun _ => rfl) hr0) hc0 h rfl).mono ?_
  rintro e w' ⟨rfl, hd⟩
  exact ⟨rfl, hd⟩

end Go.Proofs.Ytgfjccegehnjcaa.Q

/- The reference's packing of sprites is the one of the steps over lists; what one step does. -/
namespace Go.Proofs.Ytgfjccegehnjcaa.Pure
open Go.RowKit Go.Proofs.Ytgfjccegehnjcaa.Q Go.Proofs.YtgfjccegehnjcaaW.PrintWords Go.Proofs.YtgfjccegehnjcaaW.PrintLast Go.Proofs.YtgfjccegehnjcaaW.PrintMore
set_option linter.unusedVariables false
set_option linter.unusedSimpArgs false

theorem copyInts_pk (l : List Int) (hl : l.length ≤ 1000000) : spec_copyInts.f l = some l := by
  unfold spec_copyInts.f
  simp only [Option.bind_some]
  rw [if_pos (by simp; omega)]
  simp
theorem tallx_in (l : List Size) (r : List Int) (i : Nat) (hl : l.length ≤ 12) (hi : i < l.length)
    (hnext : Ev (fun k => spec_tallFirst.l0 k l (tall (hOf l) (i + 1)) ((i + 1 : Nat) : Int)) r) :
    ∀ a : Nat, a ≤ i → insPos (hOf l) (tall (hOf l) i) (i : Int) i = insPos (hOf l) (tall (hOf l) i) (i : Int) a → Ev (fun k => spec_tallFirst.l1 k l (tall (hOf l) i) (i : Int) (a : Int)) r := by
  have hlen := tall_len (hOf l) i
  have hm := fun x => tall_mem (hOf l) i x
  have hnx : insAt (tall (hOf l) i) (i : Int) (insPos (hOf l) (tall (hOf l) i) (i : Int) i) = tall (hOf l) (i + 1) := rfl
  rw [← hnx] at hnext
  clear hnx
  generalize tall (hOf l) i = out at *
  have ins : ∀ a : Nat, a ≤ i → insPos (hOf l) out (i : Int) i = a → Ev (fun k => if 0 ≤ (a : Int) then (if (a : Int) ≤ (out.length : Int) then ((spec_copyInts.f (out.take (a : Int).toNat)).bind fun t => ((some (([(i : Int)] : List Int) : List Int)).bind fun y => (if t.length + y.length < 17592186044416 then ((some (t ++ y : List Int)).bind fun z => ((some (out.drop (a : Int).toNat : List Int)).bind fun u => (if z.length + u.length < 17592186044416 then (spec_tallFirst.l0 k l (z ++ u) (wrap64 ((i : Int) + 1))) else (none)))) else (none)))) else (none)) else (none)) r := by
    intro a ha he
    rw [he] at hnext
    refine Ev.congr (fun k => ?_) hnext
    rw [if_pos (by omega), if_pos (by omega), Int.toNat_natCast, copyInts_pk _ (by rw [List.length_take]; omega)]
    simp only [Option.bind_some]
    rw [if_pos (by simp only [List.length_take, List.length_singleton]; omega), if_pos (by simp only [List.length_append, List.length_take, List.length_drop, List.length_singleton]; omega), w64n i (by omega)]
    rfl
  intro a
  induction a with
  | zero =>
    intro ha he
    refine Ev.step (fun k => ?_) (ins 0 ha (by rw [he]; rfl))
    simp only [spec_tallFirst.l1]
    rw [if_neg (by omega)]
  | succ a ih =>
    intro ha he
    have e : wrap64 (((a + 1 : Nat) : Int) - 1) = (a : Int) := by rw [w64 (by omega) (by omega)]; omega
    have hr : 0 ≤ rd out (a : Int) ∧ rd out (a : Int) < (i : Int) := by
      rw [rd_nat out a (by omega)]
      exact hm _ (List.getElem_mem _)
    by_cases c : hOf l (rd out (a : Int)) < hOf l (i : Int)
    · have h2 := ih (by omega) (by rw [he]; simp only [insPos]; rw [if_pos c])
      refine Ev.step (fun k => ?_) h2
      simp only [spec_tallFirst.l1]
      unfold hOf at c
      rw [e, if_pos (by omega), if_pos (by omega), if_pos (by omega), if_pos hr.1, if_pos (by omega), if_pos (by omega), if_pos (by omega), if_pos c]
    · refine Ev.step (fun k => ?_) (ins (a + 1) ha (by rw [he]; simp only [insPos]; rw [if_neg c]))
      simp only [spec_tallFirst.l1]
      unfold hOf at c
      rw [e, if_pos (by omega), if_pos (by omega), if_pos (by omega), if_pos hr.1, if_pos (by omega), if_pos (by omega), if_pos (by omega), if_neg c]
theorem tallx_out (l : List Size) (hl : l.length ≤ 12) : ∀ d i, i + d = l.length → Ev (fun k => spec_tallFirst.l0 k l (tall (hOf l) i) (i : Int)) (tall (hOf l) l.length) := by
  intro d
  induction d with
  | zero =>
    intro i hi
    have e : i = l.length := by omega
    rw [e]
    refine Ev.step (f := fun _ => some (tall (hOf l) l.length)) (fun k => ?_) (Ev.now _)
    simp only [spec_tallFirst.l0]
    rw [if_neg (by omega)]
  | succ d ih =>
    intro i hi
    have ho := tall_len (hOf l) i
    have h2 := tallx_in l _ i hl (by omega) (ih (i + 1) (by omega)) i (Nat.le_refl _) rfl
    refine Ev.step (fun k => ?_) h2
    simp only [spec_tallFirst.l0]
    rw [if_pos (by omega), ho]
theorem tallx_ev (l : List Size) (hl : l.length ≤ 12) : Ev (fun k => spec_tallFirst.f k l) (tall (hOf l) l.length) := by
  unfold spec_tallFirst.f
  exact tallx_out l hl l.length 0 (by omega)
/-! the shelves -/
def tops (sh : List Box) : List Int := sh.map (·.f1)
def ends (sh : List Box) : List Int := sh.map (·.f2)
theorem tops_len (sh : List Box) : (tops sh).length = sh.length := List.length_map _
theorem ends_len (sh : List Box) : (ends sh).length = sh.length := List.length_map _
theorem rd_tops (sh : List Box) (s : Nat) (h : s < sh.length) : rd (tops sh) (s : Int) = (sh[s]).f1 := by
  rw [rd_nat _ s (by rw [tops_len]; exact h)]
  simp [tops]
theorem rd_ends (sh : List Box) (s : Nat) (h : s < sh.length) : rd (ends sh) (s : Int) = (sh[s]).f2 := by
  rw [rd_nat _ s (by rw [ends_len]; exact h)]
  simp [ends]
theorem rd_app (l : List Int) (x : Int) (s : Nat) (h : s = l.length) : rd (l ++ [x]) (s : Int) = x := by
  rw [rd_nat _ s (by simp; omega)]
  subst h
  simp
theorem shx_in (l : List Size) (w : Int) (o : List Int) (hl : l.length ≤ 12) (i : Nat) (hi : i < o.length) (s0 : Pk) (r : List Box × Int)
    (h0 : 0 ≤ rd o (i : Int)) (h1 : rd o (i : Int) < (l.length : Int)) (hb : s0.1.length = l.length) (hsh : s0.2.1.length ≤ 1000) (hol : o.length ≤ 1000)
    (hnext : Ev (fun k => spec_PackSprites.l0 k l w (pkStep l w s0 (rd o (i : Int))).1 (tops (pkStep l w s0 (rd o (i : Int))).2.1) (ends (pkStep l w s0 (rd o (i : Int))).2.1) (pkStep l w s0 (rd o (i : Int))).2.2 o ((i + 1 : Nat) : Int)) r) :
    ∀ d s : Nat, s + d = s0.2.1.length → SawNone (pkP w (rd_T42 l (rd o (i : Int))).f0) s0.2.1 s → Ev (fun k => spec_PackSprites.l1 k l w s0.1 (tops s0.2.1) (ends s0.2.1) s0.2.2 o (i : Int) (s : Int) (rd_T42 l (rd o (i : Int))).f0 (rd_T42 l (rd o (i : Int))).f1) r := by
  obtain ⟨bs, sh, h⟩ := s0
  simp only at hb hsh hnext ⊢
  have htl := tops_len sh
  have hel := ends_len sh
  unfold pkStep at hnext
  simp only at hnext
  generalize (rd_T42 l (rd o (i : Int))).f0 = W at hnext ⊢
  generalize (rd_T42 l (rd o (i : Int))).f1 = H at hnext ⊢
  intro d
  induction d with
  | zero =>
    intro s he hn
    have hse : s = sh.length := by omega
    rw [hse] at hn
    rw [idxF_none _ sh hn, if_pos (by omega)] at hnext
    refine Ev.step (fun k => ?_) hnext
    simp only [spec_PackSprites.l1]
    rw [if_neg (by omega), if_pos (by omega), if_pos (by omega)]
    simp only [Option.bind_some]
    rw [if_pos (by omega), if_pos (by omega), if_pos (by omega), if_pos (by omega), if_pos (by simp; omega), if_pos (by simp; omega), if_pos h0, if_pos (by omega), w64n i (by omega), rd_app (ends sh) 0 s (by omega), rd_app (tops sh) h s (by omega)]
    simp only [tops, ends, List.map_append, List.map_cons, List.map_nil]
    rw [Int.toNat_natCast, hse, List.set_append_right _ _ (by simp), List.length_map, Nat.sub_self]
    rfl
  | succ d ih =>
    intro s he hn
    have hs : s < sh.length := by omega
    by_cases c : wrap64 ((sh[s]).f2 + W) > w
    · have hf : pkP w W sh[s] = false := by unfold pkP; rw [decide_eq_false_iff_not]; omega
      have h2 := ih (s + 1) (by omega) (hn.succ hs hf)
      refine Ev.step (fun k => ?_) h2
      simp only [spec_PackSprites.l1]
      rw [if_pos (by omega), if_pos (by omega), rd_ends sh s hs, if_pos c, w64n s (by omega)]
    · have hf : pkP w W sh[s] = true := by unfold pkP; rw [decide_eq_true_eq]; omega
      rw [idxF_at _ sh s hs hn hf, if_neg (by omega), Int.toNat_natCast] at hnext
      rw [show rd_T50 sh (s : Int) = sh[s] from rdBox sh s hs] at hnext
      refine Ev.step (fun k => ?_) hnext
      simp only [spec_PackSprites.l1]
      rw [if_pos (by omega), if_pos (by omega), rd_ends sh s hs, rd_tops sh s hs, if_neg c, if_neg (by omega), if_pos (by omega), if_pos (by omega), if_pos (by omega), if_pos h0, if_pos (by omega), w64n i (by omega), Int.toNat_natCast]
      congr 1
      · unfold tops
        rw [List.map_set]
        refine (List.ext_getElem (by simp) (fun j h1 h2 => ?_)).symm
        rw [List.getElem_set]
        split
        · next e => subst e; simp
        · rfl
      · unfold ends
        rw [List.map_set]
theorem shx_out (l : List Size) (w : Int) (hl : l.length ≤ 12) : ∀ d i, i + d = l.length → Ev (fun k => spec_PackSprites.l0 k l w (pkRun l w l.length i).1 (tops (pkRun l w l.length i).2.1) (ends (pkRun l w l.length i).2.1) (pkRun l w l.length i).2.2 (tall (hOf l) l.length) (i : Int)) ((pkRun l w l.length l.length).1, (pkRun l w l.length l.length).2.2) := by
  have hol := tall_len (hOf l) l.length
  intro d
  induction d with
  | zero =>
    intro i hi
    have e : i = l.length := by omega
    rw [e]
    refine Ev.step (f := fun _ => some ((pkRun l w l.length l.length).1, (pkRun l w l.length l.length).2.2)) (fun k => ?_) (Ev.now _)
    simp only [spec_PackSprites.l0]
    rw [if_neg (by omega)]
  | succ d ih =>
    intro i hi
    have hr := tall_rd (hOf l) l.length i (by omega)
    have hn := pkRun_len l w l.length i (by omega)
    have hx := ih (i + 1) (by omega)
    rw [pkRun_succ l w (by omega)] at hx
    have h2 := shx_in l w (tall (hOf l) l.length) hl i (by omega) (pkRun l w l.length i) _ hr.1 hr.2 hn.1 (by omega) (by omega) hx (pkRun l w l.length i).2.1.length 0 (by omega) (fun j hj => by omega)
    refine Ev.step (fun k => ?_) h2
    simp only [spec_PackSprites.l0]
    rw [if_pos (by omega), if_pos (by omega), if_pos hr.1, if_pos hr.2]
    rfl
def packV (l : List Size) (w : Int) : List Box × Int := if spritesOK l w = true then ((pkRun l w l.length l.length).1, (pkRun l w l.length l.length).2.2) else ([], -1)
theorem packx_ev (l : List Size) (w : Int) (hl : l.length ≤ 13) : Ev (fun k => spec_PackSprites.f k l w) (packV l w) := by
  have hv : Ev (fun k => spec_validSprites.f k l w) (spritesOK l w) := ev_of l.length (fun k hk => validSprites_eq l w (by omega) k hk)
  unfold spec_PackSprites.f packV
  by_cases c : spritesOK l w = true
  · have h12 := ((spritesOK_iff l w).1 c).2.2
    rw [if_pos c]
    have h2 := shx_out l w h12 l.length 0 (by omega)
    exact ev_bind hv (ev_pos c (ev_pos (by omega) (ev_pos (by omega) (ev_bind (tallx_ev l h12) h2))))
  · rw [if_neg c]
    exact ev_bind hv (ev_neg c (Ev.now _))
theorem impl_pack (l : List Size) (w : Int) : impl_PackSprites.f l w = some (packV l w) := by
  unfold impl_PackSprites.f packV
  rw [areSprites_eq]
  simp only [Option.bind_some]

/- Lists of boxes that are the same are equal. -/

theorem equalBoxes_refl (l : List Box) (hl : l.length ≤ 1000000) : Ev (fun k => laws_equalBoxes.f k l l) true := by
  have h := ev_up l.length (fun k i (_ : Unit) => laws_equalBoxes.l0 k l l (i : Int)) (fun _ _ => True) (fun _ _ => true)
    (by
      intro i s hi _
      refine .inr ⟨(), fun k => ?_, trivial, rfl⟩
      simp only [laws_equalBoxes.l0]
      rw [if_pos (by omega), if_pos (by omega), if_pos (by omega), if_neg (by simp), w64n i (by omega)])
    (by
      intro s _
      refine Ev.step (f := fun _ => some true) (fun k => ?_) (Ev.now true)
      simp only [laws_equalBoxes.l0]
      rw [if_neg (by omega)])
    l.length 0 () (by omega) trivial
  unfold laws_equalBoxes.f
  exact ev_pos rfl h
theorem packV_len (l : List Size) (w : Int) : (packV l w).1.length ≤ l.length := by
  unfold packV
  split
  · have := (pkRun_len l w l.length l.length (Nat.le_refl _)).1
    simp only; omega
  · simp

/- Atlases are not lower than they can be: the law FnPackSpritesHeight over numbers and lists alone. -/

theorem hOf_def (l : List Size) (o : Int) : hOf l o = (rd_T42 l o).f1 := rfl
theorem insPos_spec (H : Int → Int) (o : List Int) (i : Int) (a : Nat) :
    (∀ j : Nat, insPos H o i a ≤ j → j < a → H (rd o (j : Int)) < H i) ∧ (∀ p : Nat, insPos H o i a = p + 1 → H i ≤ H (rd o (p : Int))) := by
  induction a with
  | zero => exact ⟨fun j h1 h2 => by omega, fun p h => by simp [insPos] at h⟩
  | succ a ih =>
    by_cases c : H (rd o (a : Int)) < H i
    · have e : insPos H o i (a + 1) = insPos H o i a := by simp only [insPos]; rw [if_pos c]
      rw [e]
      refine ⟨fun j h1 h2 => ?_, ih.2⟩
      by_cases hj : j = a
      · subst hj; exact c
      · exact ih.1 j h1 (by omega)
    · have e : insPos H o i (a + 1) = a + 1 := by simp only [insPos]; rw [if_neg c]
      rw [e]
      refine ⟨fun j h1 h2 => by omega, fun p h => ?_⟩
      have : p = a := by omega
      subst this
      omega
theorem tall_sorted (H : Int → Int) (n : Nat) : (tall H n).Pairwise (fun x y => H y ≤ H x) := by
  induction n with
  | zero => exact List.Pairwise.nil
  | succ i ih =>
    unfold tall insAt
    have hs := insPos_spec H (tall H i) (i : Int) i
    have hle := insPos_le H (tall H i) (i : Int) i
    have hlen := tall_len H i
    generalize insPos H (tall H i) (i : Int) i = a at *
    generalize tall H i = o at *
    have hget := List.pairwise_iff_getElem.1 ih
    have low : ∀ x ∈ o.take a, H (i : Int) ≤ H x := by
      intro x hx
      obtain ⟨j, hj, rfl⟩ := List.getElem_of_mem hx
      rw [List.length_take] at hj
      rw [List.getElem_take]
      obtain ⟨p, rfl⟩ : ∃ p, a = p + 1 := ⟨a - 1, by omega⟩
      have h1 := hs.2 p rfl
      rw [rd_nat o p (by omega)] at h1
      by_cases e : j = p
      · subst e; exact h1
      · have := hget j p (by omega) (by omega) (by omega)
        omega
    have high : ∀ y ∈ o.drop a, H y ≤ H (i : Int) := by
      intro y hy
      obtain ⟨j, hj, rfl⟩ := List.getElem_of_mem hy
      rw [List.length_drop] at hj
      rw [List.getElem_drop]
      have h1 := hs.1 (a + j) (by omega) (by omega)
      rw [rd_nat o (a + j) (by omega)] at h1
      omega
    rw [List.pairwise_append, List.pairwise_append]
    refine ⟨⟨ih.sublist (List.take_sublist _ _), List.pairwise_singleton _ _, fun x hx y hy => ?_⟩, ih.sublist (List.drop_sublist _ _), fun x hx y hy => ?_⟩
    · rw [List.mem_singleton] at hy; subst hy; exact low x hx
    · rw [List.mem_append, List.mem_singleton] at hx
      rcases hx with hx | hx
      · have h1 := low x hx; have h2 := high y hy; omega
      · subst hx; exact high y hy
theorem insAt_sum (f : Int → Int) (o : List Int) (i : Int) (a : Nat) : ((insAt o i a).map f).sum = f i + (o.map f).sum := by
  unfold insAt
  have h : (o.map f).sum = ((o.take a).map f).sum + ((o.drop a).map f).sum := by
    rw [← List.sum_append, ← List.map_append, List.take_append_drop]
  rw [h]
  simp only [List.map_append, List.sum_append, List.map_cons, List.map_nil, List.sum_cons, List.sum_nil]
  omega
theorem tall_sum (H f : Int → Int) (n : Nat) : ((tall H n).map f).sum = ((seqI 0 n).map f).sum := by
  induction n with
  | zero => rfl
  | succ i ih =>
    rw [seqI_snoc, List.map_append, List.sum_append, ← ih]
    show ((insAt (tall H i) (i : Int) _).map f).sum = _
    rw [insAt_sum]
    simp only [List.map_cons, List.map_nil, List.sum_cons, List.sum_nil]
    omega
theorem seq_map (l : List Size) (f : Size → Int) : (seqI 0 l.length).map (fun o => f (rd_T42 l o)) = l.map f := by
  refine List.ext_getElem (by simp [seqI_len]) (fun j h1 h2 => ?_)
  rw [List.length_map] at h2
  simp only [seqI, List.getElem_map, List.getElem_range', Nat.zero_add, Nat.one_mul]
  rw [rdSize l j h2]
theorem tall_all (H : Int → Int) (n : Nat) (j : Nat) (hj : j < n) : (j : Int) ∈ tall H n := by
  induction n with
  | zero => omega
  | succ i ih =>
    show (j : Int) ∈ insAt (tall H i) (i : Int) _
    rw [insAt_mem]
    by_cases e : j = i
    · subst e; exact .inl rfl
    · exact .inr (ih (by omega))
theorem set_sum {α : Type} (f : α → Int) (q : α) : ∀ (L : List α) (k : Nat) (h : k < L.length), ((L.set k q).map f).sum = (L.map f).sum - f L[k] + f q := by
  intro L
  induction L with
  | nil => intro k h; simp at h
  | cons x xs ih =>
    intro k h
    cases k with
    | zero => simp; omega
    | succ k =>
      have := ih k (by simpa using h)
      simp only [List.set_cons_succ, List.map_cons, List.sum_cons, List.getElem_cons_succ]
      omega
theorem sum_ge (L : List Int) (h : ∀ x ∈ L, 0 ≤ x) : 0 ≤ L.sum ∧ ∀ x ∈ L, x ≤ L.sum := by
  induction L with
  | nil => simp
  | cons y ys ih =>
    have h1 := ih (fun x hx => h x (by simp [hx]))
    have h2 := h y (by simp)
    rw [List.sum_cons]
    refine ⟨by omega, fun x hx => ?_⟩
    rcases List.mem_cons.1 hx with rfl | hx
    · omega
    · have := h1.2 x hx; omega
theorem idxF_ok {α : Type} (p : α → Bool) (l : List α) : ∀ k : Nat, idxF p l = (k : Int) → ∃ h : k < l.length, p l[k] = true := by
  induction l with
  | nil => intro k h; simp only [idxF] at h; omega
  | cons x xs ih =>
    intro k h
    unfold idxF at h
    by_cases c : p x = true
    · rw [if_pos c] at h
      have : k = 0 := by omega
      subst this
      exact ⟨by simp, by simpa using c⟩
    · rw [if_neg c] at h
      simp only at h
      by_cases c2 : idxF p xs < 0
      · rw [if_pos c2] at h; omega
      · rw [if_neg c2] at h
        obtain ⟨j, rfl⟩ : ∃ j, k = j + 1 := ⟨k - 1, by omega⟩
        obtain ⟨h1, h2⟩ := ih j (by omega)
        exact ⟨by simp; omega, by simpa using h2⟩
/-- What stands when the sprites of a front part of the order have their places: L tells of each shelf how far it is filled, and its height. -/
structure Ht (l : List Size) (w : Int) (i : Nat) (s : Pk) (L : List (Int × Int)) : Prop where
  fill : s.2.1.map (·.f2) = L.map (·.1)
  room : ∀ p ∈ L, 0 ≤ p.1 ∧ p.1 ≤ w
  high : ∀ p ∈ L, ∃ a : Nat, a < i ∧ p.2 = hOf l (rd (tall (hOf l) l.length) (a : Int))
  hh : s.2.2 = (L.map (·.2)).sum
  area : (((tall (hOf l) l.length).take i).map (fun o => (rd_T42 l o).f0 * (rd_T42 l o).f1)).sum ≤ (L.map (fun p => p.1 * p.2)).sum
  top : s.2.2 ≤ (((tall (hOf l) l.length).take i).map (hOf l)).sum
  each : ∀ a : Nat, a < i → hOf l (rd (tall (hOf l) l.length) (a : Int)) ≤ s.2.2
  low : 0 ≤ s.2.2 ∧ s.2.2 ≤ 16 * (i : Int)
theorem ht_run (l : List Size) (w : Int) (hok : spritesOK l w = true) (i : Nat) (hi : i ≤ l.length) : ∃ L, Ht l w i (pkRun l w l.length i) L := by
  have hs := (spritesOK_iff _ _).1 hok
  obtain ⟨hs1, hs2, hs3⟩ := hs
  have hlen := tall_len (hOf l) l.length
  have hget := List.pairwise_iff_getElem.1 (tall_sorted (hOf l) l.length)
  have hmem := fun (a : Nat) (ha : a < l.length) => tall_rd (hOf l) l.length a ha
  have hsz : ∀ a : Nat, a < l.length → ∃ t ∈ l, rd_T42 l (rd (tall (hOf l) l.length) (a : Int)) = t := by
    intro a ha
    obtain ⟨h0, h1⟩ := hmem a ha
    obtain ⟨j, hj⟩ := Int.eq_ofNat_of_zero_le h0
    rw [hj] at h1 ⊢
    exact ⟨l[j]'(by omega), List.getElem_mem _, rdSize l j (by omega)⟩
  have hord : ∀ a b : Nat, a < b → b < l.length → hOf l (rd (tall (hOf l) l.length) (b : Int)) ≤ hOf l (rd (tall (hOf l) l.length) (a : Int)) := by
    intro a b hab hb
    rw [rd_nat _ a (by omega), rd_nat _ b (by omega)]
    exact hget a b (by omega) (by omega) hab
  have htk : ∀ i, i < l.length → (tall (hOf l) l.length).take (i + 1) = (tall (hOf l) l.length).take i ++ [rd (tall (hOf l) l.length) (i : Int)] := by
    intro i hi
    rw [List.take_succ_eq_append_getElem (by omega), rd_nat _ i (by omega)]
  induction i with
  | zero => exact ⟨[], ⟨by simp [pkRun], by simp, by simp, by simp [pkRun], by simp, by simp [pkRun], fun a ha => by omega, by simp [pkRun]⟩⟩
  | succ i ih =>
    obtain ⟨L, hL⟩ := ih (by omega)
    have hln := (pkRun_len l w l.length i (by omega)).2
    rw [pkRun_succ l w (by omega)]
    obtain ⟨t, htm, ht⟩ := hsz i (by omega)
    have hb := hs1 t htm
    have hHo : hOf l (rd (tall (hOf l) l.length) (i : Int)) = t.f1 := by rw [hOf_def, ht]
    have hpre : ∀ p ∈ L, t.f1 ≤ p.2 := by
      intro p hp
      obtain ⟨a, ha, e⟩ := hL.high p hp
      have := hord a i ha (by omega)
      omega
    have hp16 : ∀ p ∈ L, 1 ≤ p.2 ∧ p.2 ≤ 16 := by
      intro p hp
      obtain ⟨a, ha, e⟩ := hL.high p hp
      obtain ⟨u, hum, hu⟩ := hsz a (by omega)
      have := hs1 u hum
      rw [hOf_def] at e
      rw [hu] at e
      omega
    have hsum := sum_ge (L.map (·.2)) (fun x hx => by
      obtain ⟨p, hp, rfl⟩ := List.mem_map.1 hx
      have := hp16 p hp
      show 0 ≤ p.2
      omega)
    generalize hst : pkRun l w l.length i = st at hL hln ⊢
    obtain ⟨bs, sh, h⟩ := st
    obtain ⟨q1, q2, q3, q4, q5, q6, q7, q8⟩ := hL
    simp only at q1 q4 q6 q7 q8 hln
    have hLl : L.length = sh.length := by
      have := congrArg List.length q1
      simpa using this.symm
    unfold pkStep
    rw [ht]
    simp only
    by_cases c : idxF (pkP w t.f0) sh < 0
    · rw [if_pos c]
      refine ⟨L ++ [(t.f0, t.f1)], ⟨?_, ?_, ?_, ?_, ?_, ?_, ?_, ?_⟩⟩
      · simp only [List.map_append, List.map_cons, List.map_nil]
        rw [q1, w64 (x := 0 + t.f0) (by omega) (by omega), Int.zero_add]
      · intro p hp
        rcases List.mem_append.1 hp with hp | hp
        · exact q2 p hp
        · rw [List.mem_singleton] at hp; subst hp; show 0 ≤ t.f0 ∧ t.f0 ≤ w; omega
      · intro p hp
        rcases List.mem_append.1 hp with hp | hp
        · obtain ⟨a, ha, e⟩ := q3 p hp
          exact ⟨a, by omega, e⟩
        · rw [List.mem_singleton] at hp; subst hp; exact ⟨i, by omega, hHo.symm⟩
      · simp only [List.map_append, List.map_cons, List.map_nil, List.sum_append, List.sum_cons, List.sum_nil]
        rw [w64 (x := h + t.f1) (by omega) (by omega), q4]
        omega
      · rw [htk i (by omega)]
        simp only [List.map_append, List.map_cons, List.map_nil, List.sum_append, List.sum_cons, List.sum_nil, ht]
        omega
      · rw [htk i (by omega)]
        simp only [List.map_append, List.map_cons, List.map_nil, List.sum_append, List.sum_cons, List.sum_nil, hHo]
        rw [w64 (x := h + t.f1) (by omega) (by omega)]
        omega
      · intro a ha
        rw [w64 (x := h + t.f1) (by omega) (by omega)]
        show hOf l (rd (tall (hOf l) l.length) (a : Int)) ≤ h + t.f1
        by_cases e : a = i
        · subst e; rw [hHo]; omega
        · have := q7 a (by omega); omega
      · rw [w64 (x := h + t.f1) (by omega) (by omega)]
        show 0 ≤ h + t.f1 ∧ h + t.f1 ≤ 16 * ((i + 1 : Nat) : Int)
        omega
    · rw [if_neg c]
      obtain ⟨k, hke⟩ := Int.eq_ofNat_of_zero_le (show 0 ≤ idxF (pkP w t.f0) sh by omega)
      obtain ⟨hkl, hpk⟩ := idxF_ok (pkP w t.f0) sh k hke
      rw [hke]
      have hkL : k < L.length := by omega
      rw [Int.toNat_natCast, rdBox sh k hkl]
      have hfit : wrap64 (sh[k].f2 + t.f0) ≤ w := by
        unfold pkP at hpk
        exact of_decide_eq_true hpk
      have hek : sh[k].f2 = L[k].1 := by
        have := congrArg (fun z => z[k]?) q1
        simpa [List.getElem?_eq_getElem hkl, List.getElem?_eq_getElem hkL] using this
      have hrk := q2 L[k] (List.getElem_mem _)
      have h16 := hp16 L[k] (List.getElem_mem _)
      have hpr := hpre L[k] (List.getElem_mem _)
      rw [hek, w64 (x := L[k].1 + t.f0) (by omega) (by omega)] at hfit ⊢
      have hmul : t.f0 * t.f1 ≤ t.f0 * L[k].2 := Int.mul_le_mul_of_nonneg_left hpr (by omega)
      have hexp : (L[k].1 + t.f0) * L[k].2 = L[k].1 * L[k].2 + t.f0 * L[k].2 := Int.add_mul _ _ _
      refine ⟨L.set k (L[k].1 + t.f0, L[k].2), ⟨?_, ?_, ?_, ?_, ?_, ?_, ?_, ?_⟩⟩
      · simp only [List.map_set]
        rw [q1]
      · intro p hp
        rcases List.mem_or_eq_of_mem_set hp with hp | hp
        · exact q2 p hp
        · subst hp; show 0 ≤ L[k].1 + t.f0 ∧ L[k].1 + t.f0 ≤ w; omega
      · intro p hp
        rcases List.mem_or_eq_of_mem_set hp with hp | hp
        · obtain ⟨a, ha, e⟩ := q3 p hp
          exact ⟨a, by omega, e⟩
        · obtain ⟨a, ha, e⟩ := q3 L[k] (List.getElem_mem _)
          subst hp; exact ⟨a, by omega, e⟩
      · rw [set_sum (fun p : Int × Int => p.2) _ L k hkL]
        show h = _
        rw [q4]
        simp only
        omega
      · rw [htk i (by omega), set_sum (fun p : Int × Int => p.1 * p.2) _ L k hkL]
        simp only [List.map_append, List.map_cons, List.map_nil, List.sum_append, List.sum_cons, List.sum_nil, ht]
        rw [hexp]
        omega
      · rw [htk i (by omega)]
        simp only [List.map_append, List.map_cons, List.map_nil, List.sum_append, List.sum_cons, List.sum_nil, hHo]
        omega
      · intro a ha
        by_cases e : a = i
        · subst e
          rw [hHo]
          have := hsum.2 L[k].2 (List.mem_map.2 ⟨L[k], List.getElem_mem _, rfl⟩)
          show t.f1 ≤ h
          omega
        · exact q7 a (by omega)
      · show 0 ≤ h ∧ h ≤ _
        omega
theorem topS_le (l : List Size) (h : Int) (hl : ∀ s ∈ l, s.f1 ≤ h) : ∀ t, t ≤ h → topS l t ≤ h := by
  induction l with
  | nil => intro t ht; exact ht
  | cons x xs ih =>
    intro t ht
    have h1 := hl x (by simp)
    exact ih (fun s hs => hl s (by simp [hs])) (max t x.f1) (by omega)
theorem pack_high (l : List Size) (w : Int) (hok : spritesOK l w = true) : leastN l w ≤ (packV l w).2 ∧ (packV l w).2 ≤ (l.map (·.f1)).sum := by
  obtain ⟨L, hL⟩ := ht_run l w hok l.length (Nat.le_refl _)
  obtain ⟨hs1, hs2, hs3⟩ := (spritesOK_iff _ _).1 hok
  have hlen := tall_len (hOf l) l.length
  have e2 : (packV l w).2 = (pkRun l w l.length l.length).2.2 := by unfold packV; rw [if_pos hok]
  rw [e2]
  have eA := tall_sum (hOf l) (fun o => (rd_T42 l o).f0 * (rd_T42 l o).f1) l.length
  have eH := tall_sum (hOf l) (hOf l) l.length
  have eA2 := seq_map l (fun s => s.f0 * s.f1)
  have eH2 : (seqI 0 l.length).map (hOf l) = l.map (·.f1) := seq_map l (fun s => s.f1)
  have hA := hL.area
  have hT := hL.top
  rw [List.take_of_length_le (by omega), eA, eA2] at hA
  rw [List.take_of_length_le (by omega), eH, eH2] at hT
  refine ⟨?_, hT⟩
  unfold leastN
  rw [if_pos hok]
  have hall : ∀ s ∈ l, s.f1 ≤ (pkRun l w l.length l.length).2.2 := by
    intro s hs
    obtain ⟨j, hj, rfl⟩ := List.getElem_of_mem hs
    have hm : (j : Int) ∈ tall (hOf l) l.length := tall_all (hOf l) l.length j hj
    obtain ⟨a, ha, e⟩ := List.getElem_of_mem hm
    have h1 := hL.each a (by omega)
    rw [rd_nat _ a (by omega), e] at h1
    rw [hOf_def] at h1
    rw [rdSize l j hj] at h1
    exact h1
  have h16 : ∀ p ∈ L, 0 ≤ p.2 := by
    intro p hp
    obtain ⟨a, ha, e⟩ := hL.high p hp
    obtain ⟨h0, h1⟩ := tall_rd (hOf l) l.length a (by omega)
    obtain ⟨j, hj⟩ := Int.eq_ofNat_of_zero_le h0
    rw [hj] at h1 e
    rw [hOf_def] at e
    rw [rdSize l j (by omega)] at e
    have := hs1 (l[j]'(by omega)) (List.getElem_mem _)
    omega
  have hw : (L.map (fun p => p.1 * p.2)).sum ≤ w * (L.map (·.2)).sum := by
    have hr := hL.room
    clear hL hA
    induction L with
    | nil => simp
    | cons p ps ih =>
      have h1 := ih (fun q hq => h16 q (by simp [hq])) (fun q hq => hr q (by simp [hq]))
      have h2 := h16 p (by simp)
      have h3 := hr p (by simp)
      have h4 : p.1 * p.2 ≤ w * p.2 := Int.mul_le_mul_of_nonneg_right h3.2 h2
      simp only [List.map_cons, List.sum_cons]
      rw [Int.mul_add]
      omega
  rw [← hL.hh] at hw
  have hlow := hL.low
  have htop := topS_le l _ hall 0 (by omega)
  have harea : areaS l ≤ w * (pkRun l w l.length l.length).2.2 := by
    have : areaS l = (l.map fun s => s.f0 * s.f1).sum := rfl
    rw [this]
    omega
  have hdiv : (areaS l + w - 1) / w ≤ (pkRun l w l.length l.length).2.2 := by
    apply Int.le_of_lt_add_one
    apply Int.ediv_lt_of_lt_mul (by omega)
    rw [Int.add_mul, Int.mul_comm _ w]
    omega
  omega
theorem FnPackSpritesHeight : laws_FnPackSpritesHeight.Pure := by
  intro code _ _ hw
  apply Ev.rounds
  unfold laws_FnPackSpritesHeight.f
  by_cases c : (code.length : Int) > 1048576
  · exact ev_pos c (Ev.now true)
  refine ev_neg c ?_
  obtain ⟨l, w, hd, hn⟩ := drawSprites code hw
  have hp := packx_ev l w hn
  have hq := equalBoxes_refl (packV l w).1 (by have := packV_len l w; omega)
  refine ev_bind hd (ev_now (impl_pack l w) (ev_bind hp (ev_bind hq (ev_pos rfl (ev_pos rfl ?_)))))
  by_cases hneg : (packV l w).2 < 0
  · rw [decide_eq_true hneg]
    refine Ev.step (f := fun k => (laws_equalBoxes.f k (packV l w).1 (packV l w).1).bind fun t => if t = true then some ((packV l w).2 == (packV l w).2) else some false) (fun k => ?_) (ev_bind hq (ev_pos rfl (ev_const (by simp))))
    simp only [laws_FnPackSpritesHeight.j0, if_true]
  rw [decide_eq_false hneg]
  have hok : spritesOK l w = true := by
    by_cases h : spritesOK l w = true
    · exact h
    · exfalso; apply hneg; unfold packV; rw [if_neg h]; simp
  obtain ⟨g1, g2⟩ := pack_high l w hok
  obtain ⟨hs1, hs2, hs3⟩ := (spritesOK_iff _ _).1 hok
  have hpre : ∀ i, i ≤ l.length → 0 ≤ ((l.take i).map (·.f1)).sum ∧ ((l.take i).map (·.f1)).sum ≤ 16 * (i : Int) := by
    intro i
    induction i with
    | zero => intro _; simp
    | succ i ih =>
      intro hi
      have h1 := ih (by omega)
      have h2 := hs1 (l[i]'(by omega)) (List.getElem_mem _)
      rw [List.take_succ_eq_append_getElem (by omega)]
      simp only [List.map_append, List.map_cons, List.map_nil, List.sum_append, List.sum_cons, List.sum_nil]
      omega
  have hi : Ev (fun k => impl_LeastHeight.f k l w) (leastN l w) := ev_of l.length (fun k hk => impl_LeastHeight_eq l w (by omega) k hk)
  have hloop := ev_up l.length (fun k i (x : Int) => laws_FnPackSpritesHeight.l0 k l w (packV l w).2 x (i : Int)) (fun i x => x = ((l.take i).map (·.f1)).sum) (fun _ _ => true)
    (by
      intro i x hi hx
      have h1 := hpre i (by omega)
      have h2 := hs1 (l[i]'(by omega)) (List.getElem_mem _)
      refine .inr ⟨x + (l[i]'(by omega)).f1, fun k => ?_, ?_, rfl⟩
      · simp only [laws_FnPackSpritesHeight.l0]
        rw [if_pos (by omega), if_pos (by omega), rdSize l i hi, w64n i (by omega), w64 (x := x + l[i].f1) (by omega) (by omega)]
      · rw [List.take_succ_eq_append_getElem (by omega)]
        simp only [List.map_append, List.map_cons, List.map_nil, List.sum_append, List.sum_cons, List.sum_nil]
        omega)
    (by
      intro x hx
      rw [List.take_of_length_le (Nat.le_refl _)] at hx
      refine Ev.step (f := fun k => (impl_LeastHeight.f k l w).bind fun t => if (packV l w).2 ≥ t then some (decide ((packV l w).2 ≤ x)) else some false) (fun k => ?_) (ev_bind hi (ev_pos g1 (ev_const (by rw [hx]; simpa using g2))))
      simp only [laws_FnPackSpritesHeight.l0]
      rw [if_neg (by omega)])
    l.length 0 0 (by omega) (by simp)
  refine Ev.step (fun k => ?_) hloop
  simp only [laws_FnPackSpritesHeight.j0]
  rw [if_neg (by simp)]; rfl
end Go.Proofs.Ytgfjccegehnjcaa.Pure

/- The head of the translation reads as a plain cut. -/
namespace Go.Proofs.Ytgfjccegehnjcaa.Head
set_option maxRecDepth 100000
theorem wordsSigns_word (w r : List Char) (h : w.all (fun c => !(c == Char.ofNat 32)) = true) : wordsSigns (w ++ Char.ofNat 32 :: r) = w :: wordsSigns r := by
  induction w with
  | nil => rfl
  | cons c w ih =>
    simp only [List.all_cons, Bool.and_eq_true, Bool.not_eq_true', beq_eq_false_iff_ne, ne_eq] at h
    have h1 := ih (by simpa using h.2)
    rw [List.cons_append, wordsSigns.eq_3 c _ h.1, h1]
def w1 : List Char := [104, 97, 114, 110, 101, 115, 115].map Char.ofNat
def w2 : List Char := [48, 100, 49, 102, 49, 53, 55, 48, 99, 99, 57, 98, 53, 48, 51, 53, 98, 98, 54, 53, 53, 57, 52, 57, 56, 56, 101, 56, 99, 56, 56, 54, 99, 98, 102, 101, 54, 98, 57, 100, 98, 48, 99, 102, 53, 100, 51, 56, 102, 56, 97, 48, 54, 100, 52, 52, 97, 98, 97, 98, 99, 53, 52, 48].map Char.ofNat
def w3 : List Char := [99, 117, 116].map Char.ofNat
def w4 : List Char := [97, 116, 32, 108, 111, 111, 112, 46, 101, 120, 97, 109, 112, 108, 101, 47, 112, 105, 120, 101, 108, 119, 111, 114, 107, 115, 47, 108, 97, 119, 115, 46, 70, 110, 69, 120, 97, 99, 116, 66, 108, 101, 110, 100, 78, 117, 109, 98, 101, 114, 32, 108, 111, 111, 112, 46, 101, 120, 97, 109, 112, 108, 101, 47, 112, 105, 120, 101, 108, 119, 111, 114, 107, 115, 47, 108, 97, 119, 115, 46, 70, 110, 69, 120, 97, 99, 116, 86, 97, 108, 105, 100, 80, 97, 99, 107, 105, 110, 103, 32, 108, 111, 111, 112, 46, 101, 120, 97, 109, 112, 108, 101, 47, 112, 105, 120, 101, 108, 119, 111, 114, 107, 115, 47, 108, 97, 119, 115, 46, 70, 110, 69, 120, 97, 99, 116, 76, 101, 97, 115, 116, 72, 101, 105, 103, 104, 116, 32, 108, 111, 111, 112, 46, 101, 120, 97, 109, 112, 108, 101, 47, 112, 105, 120, 101, 108, 119, 111, 114, 107, 115, 47, 108, 97, 119, 115, 46, 70, 110, 76, 101, 97, 115, 116, 72, 101, 105, 103, 104, 116, 32, 108, 111, 111, 112, 46, 101, 120, 97, 109, 112, 108, 101, 47, 112, 105, 120, 101, 108, 119, 111, 114, 107, 115, 47, 108, 97, 119, 115, 46, 70, 110, 66, 108, 101, 110, 100, 78, 117, 109, 98, 101, 114, 32, 108, 111, 111, 112, 46, 101, 120, 97, 109, 112, 108, 101, 47, 112, 105, 120, 101, 108, 119, 111, 114, 107, 115, 47, 108, 97, 119, 115, 46, 70, 110, 66, 108, 101, 110, 100, 78, 117, 109, 98, 101, 114, 73, 110, 118, 101, 114, 116, 32, 108, 111, 111, 112, 46, 101, 120, 97, 109, 112, 108, 101, 47, 112, 105, 120, 101, 108, 119, 111, 114, 107, 115, 47, 108, 97, 119, 115, 46, 70, 110, 66, 108, 101, 110, 100, 78, 117, 109, 98, 101, 114, 77, 111, 100, 101, 115, 32, 108, 111, 111, 112, 46, 101, 120, 97, 109, 112, 108, 101, 47, 112, 105, 120, 101, 108, 119, 111, 114, 107, 115, 47, 108, 97, 119, 115, 46, 70, 110, 66, 108, 101, 110, 100, 78, 117, 109, 98, 101, 114, 65, 108, 112, 104, 97, 32, 108, 111, 111, 112, 46, 101, 120, 97, 109, 112, 108, 101, 47, 112, 105, 120, 101, 108, 119, 111, 114, 107, 115, 47, 108, 97, 119, 115, 46, 70, 110, 86, 97, 108, 105, 100, 80, 97, 99, 107, 105, 110, 103, 32, 108, 111, 111, 112, 46, 101, 120, 97, 109, 112, 108, 101, 47, 112, 105, 120, 101, 108, 119, 111, 114, 107, 115, 47, 108, 97, 119, 115, 46, 70, 110, 86, 97, 108, 105, 100, 80, 97, 99, 107, 105, 110, 103, 84, 119, 105, 99, 101, 32, 108, 111, 111, 112, 46, 101, 120, 97, 109, 112, 108, 101, 47, 112, 105, 120, 101, 108, 119, 111, 114, 107, 115, 47, 108, 97, 119, 115, 46, 70, 110, 80, 97, 99, 107, 83, 112, 114, 105, 116, 101, 115, 79, 110, 101, 32, 108, 111, 111, 112, 46, 101, 120, 97, 109, 112, 108, 101, 47, 112, 105, 120, 101, 108, 119, 111, 114, 107, 115, 47, 108, 97, 119, 115, 46, 70, 110, 80, 97, 99, 107, 83, 112, 114, 105, 116, 101, 115, 72, 101, 105, 103, 104, 116, 32, 108, 111, 111, 112, 46, 101, 120, 97, 109, 112, 108, 101, 47, 112, 105, 120, 101, 108, 119, 111, 114, 107, 115, 47, 108, 97, 119, 115, 46, 70, 110, 83, 105, 109, 112, 108, 105, 102, 121, 83, 116, 101, 112, 115, 84, 119, 105, 99, 101, 32, 108, 111, 111, 112, 46, 101, 120, 97, 109, 112, 108, 101, 47, 112, 105, 120, 101, 108, 119, 111, 114, 107, 115, 47, 108, 97, 119, 115, 46, 70, 110, 69, 120, 97, 99, 116, 83, 105, 109, 112, 108, 105, 102, 121, 83, 116, 101, 112, 115].map Char.ofNat
theorem signs0 : Try.prog.initOrder = String.ofList (w1 ++ Char.ofNat 32 :: (w2 ++ Char.ofNat 32 :: (w3 ++ Char.ofNat 32 :: w4))) := by kernel_rfl
theorem behind : behindMainWord (wordsSigns Try.prog.initOrder.toList) = w3 :: wordsSigns w4 := by
  rw [signs0, String.toList_ofList, wordsSigns_word w1 _ (by kernel_rfl), wordsSigns_word w2 _ (by kernel_rfl), wordsSigns_word w3 _ (by kernel_rfl)]
  unfold behindMainWord
  dsimp only
  rw [if_pos (by kernel_rfl)]
theorem strip_cut (R : List (List Char)) : stripLifts liftWords (w3 :: R) = ([], w3 :: R) := by kernel_rfl
theorem mayEnter_of (P : Program) (R : List (List Char)) (h : behindMainWord (wordsSigns P.initOrder.toList) = w3 :: R) (h1 : P.laysLater = false) (h2 : P.bearsReflect = false) (h3 : P.doorFits [] = true) : P.mayEnter = true := by
  unfold Program.mayEnter
  rw [h]
  dsimp only
  rw [strip_cut, h1, h2, h3]
  kernel_rfl
theorem liftsFinal_of (P : Program) (R : List (List Char)) (h : behindMainWord (wordsSigns P.initOrder.toList) = w3 :: R) : P.liftsFinal = false := by
  unfold Program.liftsFinal Program.headLifts
  rw [h]
  dsimp only
  rw [strip_cut]
  kernel_rfl
theorem make_of (P : Program) (R : List (List Char)) (h : behindMainWord (wordsSigns P.initOrder.toList) = w3 :: R) : P.make = some .cut := by
  unfold Program.make
  rw [h]
  kernel_rfl
theorem mayEnter : Try.prog.mayEnter = true := mayEnter_of _ _ behind (by kernel_rfl) (by kernel_rfl) (by kernel_rfl)
theorem liftsFinal : Try.prog.liftsFinal = false := liftsFinal_of _ _ behind
theorem make : Try.prog.make = some .cut := make_of _ _ behind
end Go.Proofs.Ytgfjccegehnjcaa.Head

-- PRINTED by print.py: the row of the law laws_FnPackSpritesHeight, out of its Pure (the session's) and the printed walk. Not trusted: Lean checks it.
namespace Go.Proofs.Ytgfjccegehnjcaa.fnPackSpritesHeight
open Go.ChangeShapes Go.WideShapes Go.ChangeAt Go.RowKit
open Go.ChangeMaps (open_string shut_string)
set_option linter.unusedVariables false
theorem own : ownKnob Try.prog.godebug = none := by kernel_rfl
theorem laidOut : laidOutB Try.prog = true := by kernel_rfl
def IsRow (k : IntKind) (w : World) (a : Option Addr) (len cap : Nat) (zs : List Int) : Prop :=
  (a = none ∧ len = 0 ∧ cap = 0 ∧ zs = []) ∨
  ∃ x, a = some x ∧ len ≤ cap ∧ cap ≤ maxLen ∧ zs.length = cap ∧ (∀ i, i < zs.length → w.cell? (x.add i) = some (.int k (zs.getD i 0))) ∧ ∀ n ∈ zs, (Lit.int k n).wf = true
set_option maxRecDepth 100000 in
theorem lifted (os : Os) (started : os.Started) (H : Type) (enc : TypeId × Value → H) :
    ReturnsInHanded {} Try.checked os 14 .any (Rows.fnPackSpritesHeightSpec.pre6 enc Try.prog Try.f14 Rows.fnPackSpritesHeightRow.domain false) (Rows.fnPackSpritesHeightSpec.post enc Try.prog Try.f14 false true false false) := by
  refine returnsInHanded_of_change_sized (C := Try.checked) own started (by kernel_rfl) Try.func14
    (ChangeSpec.witness6 (enc := enc) (C := Try.checked) false ⟨#[], #[.slice none 0 0], []⟩ 8 (by kernel_rfl) (by kernel_rfl) (by kernel_rfl) (by kernel_rfl)) ?_
  intro W base args ds gs before hval0 hW hcnd hsz0 _
  have hsz : (DataW.weightsEach Try.prog (Try.f14.params.toList ++ Rows.fnPackSpritesHeightSpec.plain.varTypes Try.prog) (ds ++ gs)).all (· ≤ reachBytes) = true := hsz0
  have hval : ∀ (j : Nat) t v, Try.f14.params[j]? = some t → args[j]? = some v → Value.okWide Try.prog W .any base t v := hval0
  have hW' := hW
  obtain ⟨p, q, hA0, hV, rfl, hfz, hnd⟩ := hW
  have hA : DataW.TrodAll enc Try.prog W 0 (fun _ => true) true Try.f14.params.toList args.toList ds p := hA0
  rw [Try.params14] at hA hval hsz
  obtain ⟨v0, vs0, d0, ds0, p0, q0, hargs, rfl, rfl, h0, r0⟩ := trodAll_cons hA
  obtain ⟨rfl, rfl, rfl⟩ := trodAll_nil r0
  obtain rfl : args = #[v0] := by cases args; simp_all
  obtain ⟨rfl, rfl⟩ := trodVars_none hV
  obtain ⟨a0, len0, cap0, rfl⟩ := okWide_slice Try.underlying38 (hval 0 38 v0 rfl rfl)
  have k0 := h0
  have lt0 : ∀ x ∈ p0, x.block < W.heap.size := by obtain ⟨m, hm⟩ := k0; exact DataW.trod_lt m _ _ _ hm
  obtain ⟨z0, w0⟩ : ∃ zs, IsRow .u8 W a0 len0 cap0 zs := by
    obtain ⟨fuel, hf⟩ := h0
    rcases open_ints Try.underlying38 Try.underlying5 (by kernel_rfl) hf with ⟨hcs, _⟩ | ⟨x, l, c, zs, hcs, _, hl, hm, hz, _, hcell, hwz⟩
    · simp [Value.cells] at hcs
      obtain ⟨rfl, rfl, rfl⟩ := hcs
      exact ⟨[], .inl ⟨rfl, rfl, rfl, rfl⟩⟩
    · simp [Value.cells] at hcs
      obtain ⟨rfl, rfl, rfl⟩ := hcs
      exact ⟨zs, .inr ⟨_, rfl, hl, hm, by simpa using hz, hcell, hwz⟩⟩
  have y0 : len0 * 1 ≤ 140737488351232 := Go.Proofs.YtgfjccegehnjcaaW.PrintWords.sized_ints hsz (j := 0) (t := 38) rfl rfl Try.underlying38 Try.underlying5 (by kernel_rfl) (by kernel_rfl) h0
  clear hA0 hval0 hsz0 hsz
  refine (Q.laws_FnPackSpritesHeight.walk Pure.FnPackSpritesHeight a0 len0 cap0 z0 W w0 y0).mono fun e W' ⟨he, bel⟩ => ?_
  subst he
  exact ⟨_, rfl, _, _, _, [], _, [], hW', trodAll_mk1 (shut_bool Try.underlying4 _), (trodAll_cons_mk (Below.trod laidOut (by kernel_rfl) (of_decide_eq_true (by kernel_rfl)) k0 bel lt0) trodAll_mk0), rfl, bel.frame _, fun h => by cases h⟩
set_option maxHeartbeats 4000000 in
theorem closed : joinedFacts Try.prog 14 Try.f14 Rows.fnPackSpritesHeightSpec Rows.fnPackSpritesHeightRow = true := by
  unfold joinedFacts
  rw [Head.mayEnter, Head.liftsFinal, Head.make]
  simp only [Bool.and_eq_true]
  repeat' apply And.intro
  all_goals first | exact True.intro | (as_aux_lemma => kernel_rfl)
theorem over : Rows.fnPackSpritesHeightRow.holds Try.pinned (OpenSpec.ofChange Rows.fnPackSpritesHeightSpec) :=
  OpenClaim.holds_of_wide 14 Try.f14 rfl rfl rfl rfl rfl rfl rfl ⟨rfl, rfl, rfl, rfl, rfl⟩ rfl rfl rfl rfl rfl (by kernel_rfl) Try.func14 closed
    (of_decide_eq_true (by kernel_rfl)) (by unfold Func.isWrapper; first | (rw [if_pos (by decide +kernel)]; kernel_rfl) | (rw [if_neg (by decide +kernel)]; exact ⟨rfl, rfl⟩))
    (fun os started H enc _ => lifted os started H enc)
theorem proved : Rows.FnPackSpritesHeightSaid := over
#print axioms proved
end Go.Proofs.Ytgfjccegehnjcaa.fnPackSpritesHeight
namespace Go.Proofs.Ytgfjccegehnjcaa
/-- The row, under a short name, for the claim. -/
theorem fnPackSpritesHeight_holds : Rows.FnPackSpritesHeightSaid := fnPackSpritesHeight.proved
end Go.Proofs.Ytgfjccegehnjcaa
