/- A part of the proof that the statement FnPatchImageTwiceSaid holds, under no condition of its own: A patch laid twice: the law FnPatchImageTwice over lists of numbers alone. -/
import Derived.Test.YtnofkbbcbpjhfaaProg
import Derived.Below
import Derived.Deep.Draws
import Derived.Deep.AppendLies
import Derived.Maps.AppendAt
import Derived.OwnWalk
import Derived.Laws.BytesArg
import Derived.Laws.MakeOwn
import Derived.Laws.OwnMore
import Derived.Deep.OwnRows
import Derived.Tactics
import Derived.Lib.ConvBytes
import Derived.Laws.Slices
import Derived.WalkKit
import Derived.KernelRfl
import Derived.RowKit3
import Derived.Deep.LoopGhost
import Derived.Deep.QuietTactic
import Derived.BigQuiet
import Derived.WideLaws
import Derived.Deep.DeepCutAuto
import Derived.Deep.CutBlock
import Derived.Deep.RegionHeld3
import Derived.Laws.Rows
import Derived.Lib.AppendStr
import Derived.ArgAppend
import Derived.Laws.IdiomCopy
import Derived.OrdersHeld
import Derived.Laws.BitsLemmas
import Derived.RowKit
import Derived.Test.YtnofkbbcbpjhfaaCFnPatchImageTwiceW1
import Derived.Shelf.Abstract
namespace Go.Proofs.Ytnofkbbcbpjhfaa.Q
open Go.RowKit Go.Proofs.YtnofkbbcbpjhfaaW.PrintWords Go.Proofs.YtnofkbbcbpjhfaaW.PrintLast Go.Proofs.YtnofkbbcbpjhfaaW.PrintMore
attribute [local go_sem] max2_int min2_int max_two min_two max_three min_three max_four min_four
set_option linter.unusedVariables false
set_option linter.unusedSimpArgs false
open Go.Proofs.YtnofkbbcbpjhfaaW.PrintWords.Aside0 (mk)
set_option maxHeartbeats 12000000
set_option maxRecDepth 100000
def errW : Option Int → Value
  | none => .nilIface
  | some c => .iface 0 (.int .i64 c)
theorem errW_none : errW none = .nilIface := rfl
theorem errW_some (c : Int) : errW (some c) = .iface 0 (.int .i64 c) := rfl
theorem info3 : (Try.prog.info? 3).map (fun i => (i.zero, i.size, i.bytes)) = some (some (.int .i64 0), 1, 8) := by kernel_rfl
theorem info4 : (Try.prog.info? 4).map (fun i => (i.zero, i.size, i.bytes)) = some (some (.bool false), 1, 1) := by kernel_rfl
theorem info5 : (Try.prog.info? 5).map (fun i => (i.zero, i.size, i.bytes)) = some (some (.int .u8 0), 1, 1) := by kernel_rfl
theorem info43 : (Try.prog.info? 43).map (fun i => (i.zero, i.size, i.bytes)) = some (some (.slice none 0 0), 1, 24) := by kernel_rfl
theorem info47 : (Try.prog.info? 47).map (fun i => (i.zero, i.size, i.bytes)) = some (some (.agg #[(.int .i64 0), (.int .i64 0), (.int .i64 0), (.int .i64 0)]), 4, 32) := by kernel_rfl
theorem info118 : (Try.prog.info? 118).map (fun i => (i.zero, i.size, i.bytes)) = some (some (.agg #[(.int .i64 0), (.int .i64 0), (.int .i64 0)]), 3, 24) := by kernel_rfl
structure S7 where
  f0 : Int
  f1 : Int
  f2 : Bool
  f3 : Int
structure S8 where
  f0 : Int
  f1 : Int
  f2 : Bool
  f3 : Int
structure S13 where
  f0 : ByteArray
  f1 : Int
structure S14 where
  f0 : ByteArray
  f1 : Int
structure S23 where
  f0 : Int
  f1 : Int
  f2 : Int
  f3 : (List Int)
structure S24 where
  f0 : Int
  f1 : Int
  f2 : Int
  f3 : (List Int)
structure S27 where
  f0 : Int
  f1 : Int
  f2 : Int
  f3 : (List Int)
structure S47 where
  f0 : Int
  f1 : Int
  f2 : Int
  f3 : Int
def z47 : S47 := ⟨(0 : Int), (0 : Int), (0 : Int), (0 : Int)⟩
def k47 : Kd S47 := Kd.iso (Kd.pair (Kd.int .i64) (Kd.pair (Kd.int .i64) (Kd.pair (Kd.int .i64) (Kd.int .i64)))) (fun x : S47 => (x.f0, x.f1, x.f2, x.f3))
theorem k47_open {w : World} {x : S47} {cs : List Value} (h : k47.K w x cs) : cs = [.int .i64 x.f0, .int .i64 x.f1, .int .i64 x.f2, .int .i64 x.f3] := by
  obtain ⟨_, _, rfl, rfl, ⟨_, _, rfl, rfl, ⟨_, _, rfl, rfl, rfl⟩⟩⟩ := h
  exact rfl
theorem k47_mkM (w : World) (base : Nat) (ok : Nat → Prop) (x : S47)  : k47.M w base ok x [.int .i64 x.f0, .int .i64 x.f1, .int .i64 x.f2, .int .i64 x.f3] := ⟨[.int .i64 x.f0], [.int .i64 x.f1, .int .i64 x.f2, .int .i64 x.f3], rfl, rfl, ⟨[.int .i64 x.f1], [.int .i64 x.f2, .int .i64 x.f3], rfl, rfl, ⟨[.int .i64 x.f2], [.int .i64 x.f3], rfl, rfl, rfl⟩⟩⟩
def rd_T47 (xs : List S47) (i : Int) : S47 := xs.getD i.toNat z47
theorem at_T47 {w : World} {A : Option Addr} {n : Nat} {xs : List S47} (h : Kd.C k47 w A n xs) (i : Int) (h0 : 0 ≤ i) (h1 : i < n) : ∃ ad , A = some ad ∧ w.cell? (ad.add (i.toNat * 4)) = some (.int .i64 (rd_T47 xs i).f0) ∧ w.cell? ⟨(ad.add (i.toNat * 4)).block, (ad.add (i.toNat * 4)).off + 1, none⟩ = some (.int .i64 (rd_T47 xs i).f1) ∧ w.cell? ⟨(ad.add (i.toNat * 4)).block, (ad.add (i.toNat * 4)).off + 2, none⟩ = some (.int .i64 (rd_T47 xs i).f2) ∧ w.cell? ⟨(ad.add (i.toNat * 4)).block, (ad.add (i.toNat * 4)).off + 3, none⟩ = some (.int .i64 (rd_T47 xs i).f3) := by
  obtain ⟨ad, c, e, _, hK, hc0⟩ := Kd.C_get h z47 i h0 h1
  have hc : ∀ j u, c[j]? = some u → w.cell? (ad.add (i.toNat * 4 + j)) = some u := hc0
  obtain rfl := k47_open hK
  exact ⟨ad, e, hc 0 _ rfl, by rw [← add_field _ _ 1 (by omega)]; exact hc 1 _ rfl, by rw [← add_field _ _ 2 (by omega)]; exact hc 2 _ rfl, by rw [← add_field _ _ 3 (by omega)]; exact hc 3 _ rfl⟩

structure S118 where
  f0 : Int
  f1 : Int
  f2 : Int
def z118 : S118 := ⟨(0 : Int), (0 : Int), (0 : Int)⟩
def k118 : Kd S118 := Kd.iso (Kd.pair (Kd.int .i64) (Kd.pair (Kd.int .i64) (Kd.int .i64))) (fun x : S118 => (x.f0, x.f1, x.f2))
theorem k118_open {w : World} {x : S118} {cs : List Value} (h : k118.K w x cs) : cs = [.int .i64 x.f0, .int .i64 x.f1, .int .i64 x.f2] := by
  obtain ⟨_, _, rfl, rfl, ⟨_, _, rfl, rfl, rfl⟩⟩ := h
  exact rfl
theorem k118_mkM (w : World) (base : Nat) (ok : Nat → Prop) (x : S118)  : k118.M w base ok x [.int .i64 x.f0, .int .i64 x.f1, .int .i64 x.f2] := ⟨[.int .i64 x.f0], [.int .i64 x.f1, .int .i64 x.f2], rfl, rfl, ⟨[.int .i64 x.f1], [.int .i64 x.f2], rfl, rfl, rfl⟩⟩
def rd_T118 (xs : List S118) (i : Int) : S118 := xs.getD i.toNat z118
theorem at_T118 {w : World} {A : Option Addr} {n : Nat} {xs : List S118} (h : Kd.C k118 w A n xs) (i : Int) (h0 : 0 ≤ i) (h1 : i < n) : ∃ ad , A = some ad ∧ w.cell? (ad.add (i.toNat * 3)) = some (.int .i64 (rd_T118 xs i).f0) ∧ w.cell? ⟨(ad.add (i.toNat * 3)).block, (ad.add (i.toNat * 3)).off + 1, none⟩ = some (.int .i64 (rd_T118 xs i).f1) ∧ w.cell? ⟨(ad.add (i.toNat * 3)).block, (ad.add (i.toNat * 3)).off + 2, none⟩ = some (.int .i64 (rd_T118 xs i).f2) := by
  obtain ⟨ad, c, e, _, hK, hc0⟩ := Kd.C_get h z118 i h0 h1
  have hc : ∀ j u, c[j]? = some u → w.cell? (ad.add (i.toNat * 3 + j)) = some u := hc0
  obtain rfl := k118_open hK
  exact ⟨ad, e, hc 0 _ rfl, by rw [← add_field _ _ 1 (by omega)]; exact hc 1 _ rfl, by rw [← add_field _ _ 2 (by omega)]; exact hc 2 _ rfl⟩

def rd_L17 (xs : List (List S118)) (i : Int) : (List S118) := xs.getD i.toNat ([] : List S118)
theorem at_L17 {w : World} {A : Option Addr} {n : Nat} {xs : List (List S118)} (h : Kd.C (Kd.slice 118 k118) w A n xs) (i : Int) (h0 : 0 ≤ i) (h1 : i < n) : ∃ ad A0 c0, A = some ad ∧ w.cell? (ad.add i.toNat) = some (.slice A0 (rd_L17 xs i).length c0) ∧ (rd_L17 xs i).length ≤ c0 ∧ k118.C w A0 (rd_L17 xs i).length (rd_L17 xs i) := by
  obtain ⟨ad, c, e, _, hK, hc0⟩ := Kd.C_get h ([] : List S118) i h0 h1
  have hc : ∀ j u, c[j]? = some u → w.cell? (ad.add (i.toNat * 1 + j)) = some u := hc0
  obtain ⟨A0, c0, rfl, l0, g0⟩ := hK
  exact ⟨ad, A0, c0, e, by have hq := hc 0 _ rfl; rwa [Nat.mul_one, Nat.add_zero] at hq, l0, g0⟩

structure S46 where
  f0 : Int
  f1 : Int
  f2 : Int
  f3 : Int
structure S50 where
  f0 : S24
  f1 : Int
  f2 : Int
  f3 : Int
  f4 : Int
  f5 : Bool
structure S51 where
  f0 : S24
  f1 : Int
  f2 : Int
  f3 : Int
  f4 : Int
  f5 : Bool
structure S54 where
  f0 : S27
  f1 : Int
  f2 : Int
  f3 : Int
  f4 : Int
  f5 : Bool
structure S55 where
  f0 : S27
  f1 : Int
  f2 : Int
  f3 : Int
  f4 : Int
  f5 : Bool
structure S137 where
  f0 : Int
  f1 : Int
  f2 : Int
  f3 : Int
structure S117 where
  f0 : Int
  f1 : Int
  f2 : Int
structure S143 where
  f0 : (List Int)
  f1 : Int
structure S144 where
  f0 : (List Int)
  f1 : Int

def impl_isSide.f (a0 : Int) : Option (Bool) := if a0 ≥ 1 then (some (decide (a0 ≤ 16))) else (some false)
theorem impl_isSide.calls (a0 : Int) (r : Bool) (w : World) (h : impl_isSide.f a0 = some r) :
  Calls Try.prog 153 #[.int .i64 a0] w fun e w' => e = .returned (.bool r) ∧ Drawn0 w w' := by
 have H : (if a0 ≥ 1 then (some (decide (a0 ≤ 16))) else (some false)) = some r := h
 clear h
 by_cases c2 : a0 ≥ 1
 ·rw [if_pos c2] at H
  have c2b0 : decide (1 ≤ a0) = true := decide_eq_true c2
  clear c2
  obtain rfl := Option.some.inj H
  go_enter Try.func153, Try.ntmps153
  go_wp2
  go_ret
  exact ⟨by first | rfl | (simp; done) | (simp [*]; done), by repeat (first | exact Drawn0.refl _ | apply Drawn0.step)⟩
 ·rw [if_neg c2] at H
  have c2b0 : decide (1 ≤ a0) = false := decide_eq_false c2
  clear c2
  obtain rfl := Option.some.inj H
  go_enter Try.func153, Try.ntmps153
  go_wp2
  go_ret
  exact ⟨by first | rfl | (simp; done) | (simp [*]; done), by repeat (first | exact Drawn0.refl _ | apply Drawn0.step)⟩


def impl_isShape.f (a0 : Int) (a1 : Int) (a2 : Int) : Option (Bool) := (impl_isSide.f a0).bind fun t132001 => (if t132001 = true then ((impl_isSide.f a1).bind fun t132002 => (if t132002 = true then (if a2 ≥ 1 then (some (decide (a2 ≤ 4))) else (some false)) else (some false))) else (some false))
theorem impl_isShape.calls (a0 : Int) (a1 : Int) (a2 : Int) (r : Bool) (w : World) (h : impl_isShape.f a0 a1 a2 = some r) :
  Calls Try.prog 131 #[.int .i64 a0, .int .i64 a1, .int .i64 a2] w fun e w' => e = .returned (.bool r) ∧ Drawn0 w w' := by
 have H : ((impl_isSide.f a0).bind fun t132001 => (if t132001 = true then ((impl_isSide.f a1).bind fun t132002 => (if t132002 = true then (if a2 ≥ 1 then (some (decide (a2 ≤ 4))) else (some false)) else (some false))) else (some false))) = some r := h
 clear h
 replace H := Option.bind_eq_some_iff.mp H
 obtain ⟨t132001, A40, H⟩ := H
 replace H : (if t132001 = true then ((impl_isSide.f a1).bind fun t132002 => (if t132002 = true then (if a2 ≥ 1 then (some (decide (a2 ≤ 4))) else (some false)) else (some false))) else (some false)) = some r := H
 have A4 := Aside0.mk A40
 clear A40
 by_cases c5 : t132001 = true
 ·subst c5
  have H1 : ((impl_isSide.f a1).bind fun t132002 => (if t132002 = true then (if a2 ≥ 1 then (some (decide (a2 ≤ 4))) else (some false)) else (some false))) = some r := by rw [if_pos rfl] at H; exact H
  clear H
  have H := H1
  clear H1
  replace H := Option.bind_eq_some_iff.mp H
  obtain ⟨t132002, A60, H⟩ := H
  replace H : (if t132002 = true then (if a2 ≥ 1 then (some (decide (a2 ≤ 4))) else (some false)) else (some false)) = some r := H
  have A6 := Aside0.mk A60
  clear A60
  by_cases c7 : t132002 = true
  ·subst c7
   have H1 : (if a2 ≥ 1 then (some (decide (a2 ≤ 4))) else (some false)) = some r := by rw [if_pos rfl] at H; exact H
   clear H
   have H := H1
   clear H1
   by_cases c8 : a2 ≥ 1
   ·rw [if_pos c8] at H
    have c8b0 : decide (1 ≤ a2) = true := decide_eq_true c8
    clear c8
    obtain rfl := Option.some.inj H
    go_enter Try.func131, Try.ntmps131
    go_wp2_with (first | ((with_reducible refine gate_callee (f := 153) rfl ?_); refine goesL_ (some 8) rfl rfl Try.func153 (by kernel_rfl) rfl #[.int .i64 a0] rfl (by (try simp only [List.map_toArray, List.map_cons, List.map_nil]); first | done | rfl | (simp only [List.length_drop, List.length_take]; rfl)) ?_; (with_reducible refine (impl_isSide.calls a0 true _ A4.out).mono ?_); rintro e w' ⟨rfl, ⟨nd, rfl⟩⟩; refine ⟨_, rfl, ?_⟩) | (go_at_call 153; (with_reducible refine (impl_isSide.calls a1 true _ A6.out).mono ?_); rintro e w' ⟨rfl, ⟨nd, rfl⟩⟩))
    go_ret
    exact ⟨by first | rfl | (simp; done) | (simp [*]; done), by repeat (first | exact Drawn0.refl _ | apply Drawn0.step)⟩
   ·rw [if_neg c8] at H
    have c8b0 : decide (1 ≤ a2) = false := decide_eq_false c8
    clear c8
    obtain rfl := Option.some.inj H
    go_enter Try.func131, Try.ntmps131
    go_wp2_with (first | ((with_reducible refine gate_callee (f := 153) rfl ?_); refine goesL_ (some 8) rfl rfl Try.func153 (by kernel_rfl) rfl #[.int .i64 a0] rfl (by (try simp only [List.map_toArray, List.map_cons, List.map_nil]); first | done | rfl | (simp only [List.length_drop, List.length_take]; rfl)) ?_; (with_reducible refine (impl_isSide.calls a0 true _ A4.out).mono ?_); rintro e w' ⟨rfl, ⟨nd, rfl⟩⟩; refine ⟨_, rfl, ?_⟩) | (go_at_call 153; (with_reducible refine (impl_isSide.calls a1 true _ A6.out).mono ?_); rintro e w' ⟨rfl, ⟨nd, rfl⟩⟩))
    go_ret
    exact ⟨by first | rfl | (simp; done) | (simp [*]; done), by repeat (first | exact Drawn0.refl _ | apply Drawn0.step)⟩
  ·replace c7 := Bool.eq_false_iff.mpr c7
   subst c7
   have H1 : (some false) = some r := by rw [if_neg (show ¬ (false = true) by decide)] at H; exact H
   clear H
   have H := H1
   clear H1
   obtain rfl := Option.some.inj H
   go_enter Try.func131, Try.ntmps131
   go_wp2_with (first | ((with_reducible refine gate_callee (f := 153) rfl ?_); refine goesL_ (some 8) rfl rfl Try.func153 (by kernel_rfl) rfl #[.int .i64 a0] rfl (by (try simp only [List.map_toArray, List.map_cons, List.map_nil]); first | done | rfl | (simp only [List.length_drop, List.length_take]; rfl)) ?_; (with_reducible refine (impl_isSide.calls a0 true _ A4.out).mono ?_); rintro e w' ⟨rfl, ⟨nd, rfl⟩⟩; refine ⟨_, rfl, ?_⟩) | (go_at_call 153; (with_reducible refine (impl_isSide.calls a1 false _ A6.out).mono ?_); rintro e w' ⟨rfl, ⟨nd, rfl⟩⟩))
   go_ret
   exact ⟨by first | rfl | (simp; done) | (simp [*]; done), by repeat (first | exact Drawn0.refl _ | apply Drawn0.step)⟩
 ·replace c5 := Bool.eq_false_iff.mpr c5
  subst c5
  have H1 : (some false) = some r := by rw [if_neg (show ¬ (false = true) by decide)] at H; exact H
  clear H
  have H := H1
  clear H1
  obtain rfl := Option.some.inj H
  go_enter Try.func131, Try.ntmps131
  go_wp2_with (first | ((with_reducible refine gate_callee (f := 153) rfl ?_); refine goesL_ (some 8) rfl rfl Try.func153 (by kernel_rfl) rfl #[.int .i64 a0] rfl (by (try simp only [List.map_toArray, List.map_cons, List.map_nil]); first | done | rfl | (simp only [List.length_drop, List.length_take]; rfl)) ?_; (with_reducible refine (impl_isSide.calls a0 false _ A4.out).mono ?_); rintro e w' ⟨rfl, ⟨nd, rfl⟩⟩; refine ⟨_, rfl, ?_⟩))
  go_ret
  exact ⟨by first | rfl | (simp; done) | (simp [*]; done), by repeat (first | exact Drawn0.refl _ | apply Drawn0.step)⟩


/- Words of this session's own hand-made walks: where the first element lies for which a test holds; draws that follow each other. -/

theorem dtrans {a b c : World} (h : Drawn0 a b) (k : Drawn0 b c) : Drawn0 a c := by
  obtain ⟨n, rfl⟩ := k
  exact h.step n

/-- where the first element is for which p holds; -1 -/
def idxF {α : Type} (p : α → Bool) : List α → Int
  | [] => -1
  | x :: xs => if p x then 0 else (let r := idxF p xs; if r < 0 then -1 else r + 1)
theorem idxF_any {α : Type} (p : α → Bool) (l : List α) : decide (idxF p l ≥ 0) = l.any p := by
  induction l with
  | nil => simp [idxF]
  | cons x xs ih =>
    unfold idxF
    by_cases h : p x = true
    · simp [h]
    · simp only [h, List.any_cons, Bool.false_or, ← ih]
      simp only [Bool.false_eq_true, if_false]
      split
      · simp; omega
      · simp; omega
/-- p fails at all that lies before k -/
def SawNone {α : Type} (p : α → Bool) (l : List α) (k : Nat) : Prop := ∀ j, j < k → ∀ h : j < l.length, p l[j] = false
theorem SawNone.succ {α : Type} {p : α → Bool} {l : List α} {k : Nat} (h : SawNone p l k) (hk : k < l.length) (hp : p l[k] = false) : SawNone p l (k + 1) := by
  intro j hj hl
  by_cases e : j = k
  · subst e; exact hp
  · exact h j (by omega) hl
theorem idxF_at {α : Type} (p : α → Bool) (l : List α) (k : Nat) (hk : k < l.length) (hs : SawNone p l k) (hp : p l[k] = true) : idxF p l = k := by
  induction l generalizing k with
  | nil => simp at hk
  | cons x xs ih =>
    unfold idxF
    cases k with
    | zero => simp at hp; simp [hp]
    | succ k =>
      have h0 : p x = false := hs 0 (by omega) (by simp)
      have := ih k (by simpa using hk) (fun j hj h => hs (j + 1) (by omega) (by simpa using h)) (by simpa using hp)
      simp [h0, this]; omega
theorem idxF_none {α : Type} (p : α → Bool) (l : List α) (hs : SawNone p l l.length) : idxF p l = -1 := by
  induction l with
  | nil => rfl
  | cons x xs ih =>
    unfold idxF
    have h0 : p x = false := hs 0 (by simp) (by simp)
    have := ih (fun j hj h => hs (j + 1) (by simpa using hj) (by simpa using h))
    simp [h0, this]
theorem rd_get (l : List Int) (k : Nat) (hk : k < l.length) : rd l k = l[k] := by simp [rd, hk]
theorem ret_bool {a b : Bool} (h : a = b) : Ending.returned (.bool a) = .returned (.bool b) := by rw [h]
theorem R_empty {α : Type} (d : Kd α) (e base : Nat) (W : World) (hb : base ≤ W.heap.size) : d.R e (W.alloc (.cells #[] e)) base (fun _ => True) (.slice (some ⟨W.heap.size, 0, none⟩) 0 0) [] :=
  ⟨fun _ _ => trivial, OwnRow.lit (ps := []) (inner := []) W base (Reps.none _ _) hb (by simp)⟩

/- slices.IndexFunc over whole numbers: where the first element lies for which the function value's answer is true. -/

theorem idxFunc_int (g : Nat) (lb : Array Value) (p : Int → Bool) (A : Option Addr) (c : Nat) (l : List Int) (w : World)
  (eg : ∀ args W, (callFunc g args).run Try.prog W = .ok (.enter g args) W)
  (hp : ∀ (W : World) (x : Int), Below w.heap.size w W → Calls Try.prog g (#[.int .i64 x] ++ lb) W fun e W' => e = .returned (.bool (p x)) ∧ Drawn0 W W')
  (hr : Kd.C (Kd.int .i64) w A l.length l) :
  Calls Try.prog 162 #[.slice A l.length c, .func (.func g) #[] lb] w fun e w' => e = .returned (.int .i64 (idxF p l)) ∧ Drawn0 w w' := by
 have hm : l.length ≤ 9223372036854775807 := hr.2.1
 have HP := Aside0.mk hp
 have HR := Aside0.mk hr
 clear hp hr
 go_enter Try.func162, Try.ntmps162
 go_wp2
 go_loopw [8] (fun v8 W => ∃ k : Nat, v8 = .int .i64 k ∧ k ≤ l.length ∧ SawNone p l k ∧ Drawn0 w W) (fun v8 _ => l.length - (intOf v8).toNat)
 case atStart => exact ⟨0, rfl, by omega, fun j hj => by omega, Drawn0.refl _⟩
 case round =>
  obtain ⟨k, rfl, hk, hs, hd⟩ := hrel
  by_cases hlt : k < l.length
  ·obtain ⟨ad, e, hx⟩ := Kd.at_int HR.out (k : Int) (by omega) (by omega)
   cases e
   rw [rd_get l k hlt, Int.toNat_natCast] at hx
   replace hx := (hd.below.cell (World.block_lt_of_cell? w _ hx)).trans hx
   by_cases hv : p l[k] = true
   ·have HV := Aside0.mk hv
    clear hv
    go_wp2_with (first | (go_at_fn g; refine (HP.out _ _ hd.below).mono ?_; rintro e w' ⟨rfl, hd2⟩; rw [HV.out]))
    go_ret
    exact ⟨by rw [idxF_at p l k hlt hs HV.out]; rfl, dtrans hd hd2⟩
   ·replace hv : p l[k] = false := by simpa using hv
    have hs' := hs.succ hlt hv
    have HV := Aside0.mk hv
    clear hv
    go_wp2_with (first | (go_at_fn g; refine (HP.out _ _ hd.below).mono ?_; rintro e w' ⟨rfl, hd2⟩; rw [HV.out]))
    go_roundw
    case rel => exact ⟨k + 1, by go_num, by omega, hs', dtrans hd hd2⟩
    case measure => simp [intOf]; omega
  ·go_wp2
   go_ret
   have : k = l.length := by omega
   subst this
   exact ⟨by rw [idxF_none p l hs]; rfl, hd⟩

/- slices.ContainsFunc over whole numbers. -/

theorem containsFunc_int (g : Nat) (lb : Array Value) (p : Int → Bool) (A : Option Addr) (c : Nat) (l : List Int) (w : World)
  (eg : ∀ args W, (callFunc g args).run Try.prog W = .ok (.enter g args) W)
  (hp : ∀ (W : World) (x : Int), Below w.heap.size w W → Calls Try.prog g (#[.int .i64 x] ++ lb) W fun e W' => e = .returned (.bool (p x)) ∧ Drawn0 W W')
  (hr : Kd.C (Kd.int .i64) w A l.length l) :
  Calls Try.prog 154 #[.slice A l.length c, .func (.func g) #[] lb] w fun e w' => e = .returned (.bool (l.any p)) ∧ Drawn0 w w' := by
 have HP := Aside0.mk hp
 have HR := Aside0.mk hr
 clear hp hr
 go_enter Try.func154, Try.ntmps154
 go_wp2_with (first | (go_at_call 162; refine (idxFunc_int g lb p _ _ _ _ eg HP.out HR.out).mono ?_; rintro e w' ⟨rfl, hd⟩))
 go_ret
 exact ⟨ret_bool (by first | exact idxF_any p l | (rw [← idxF_any p l])), hd⟩

/- impl.areBytes: every number is in 0..255. -/

def notByte (n : Int) : Bool := decide (n < 0) || decide (n > 255)
def impl_areBytes.f (l0 : List Int) : Option Bool := some (!l0.any notByte)

theorem areBytes1 (n : Int) (w : World) : Calls Try.prog 155 #[.int .i64 n] w fun e w' => e = .returned (.bool (notByte n)) ∧ Drawn0 w w' := by
 by_cases h1 : n < 0 <;> by_cases h2 : n > 255
 all_goals
  go_enter Try.func155, Try.ntmps155
  go_wp2
  go_ret
  exact ⟨by simp [notByte, *], Drawn0.refl _⟩

theorem impl_areBytes.calls (A0 : Option Addr) (c0 : Nat) (l0 : List Int) (r : Bool) (w : World) (hr0 : Kd.C (Kd.int .i64) w A0 l0.length l0) (hc0 : l0.length ≤ c0) (h : impl_areBytes.f l0 = some r) :
  Calls Try.prog 132 #[.slice A0 l0.length c0] w fun e w' => e = .returned (.bool r) ∧ Drawn0 w w' := by
 obtain rfl := Option.some.inj h
 clear h
 have HR := Aside0.mk hr0
 clear hr0
 have eg : ∀ args W, (callFunc 155 args).run Try.prog W = .ok (.enter 155 args) W := enters_of Try.func155 (by kernel_rfl) rfl
 go_enter Try.func132, Try.ntmps132
 go_wp2_with (first | (go_at_call 154; refine (containsFunc_int 155 #[] notByte _ _ _ _ eg (fun W x _ => areBytes1 x W) HR.out).mono ?_; rintro e w' ⟨rfl, hd⟩))
 go_ret
 exact ⟨rfl, hd⟩

/- Steps of a region with the mask left to be worked out; sets of rewriting facts under short names. -/

attribute [seval] Act.put List.setIfInBounds_toArray List.set_cons_zero List.set_cons_succ i64_w i32_w
attribute [bool_to_prop] Act.put List.setIfInBounds_toArray List.set_cons_zero List.set_cons_succ List.getElem_toArray List.getElem_cons_zero List.getElem_cons_succ
attribute [bitvec_to_nat] List.map_toArray List.map_cons List.map_nil
section
variable {P : Program} {ops : Array Oper} {Q : Exit → Act → World → Prop} {md : Region.Mode} {S : World → Prop} {ds : List Nat}
theorem pu (i : Nat) (N : Nat) {oi : Oper} (v : Value) (b : Act) {fuel : Nat} {l : Array Bool} {a : Act} {w : World} (hi : ops[i]? = some oi) (hN : oi.dst = some N) (hc : anyB md ops l (l.setIfInBounds i true) i = true) (hy : Yields P ops oi v a) (ha : a.put (some N) v = b) (h : wpAnyLast P md ops Q S ds fuel (l.setIfInBounds i true) b w) (hQ : ∀ c a w, Q (.panic c) (a.put oi.dst v) w → Q (.panic c) a w := by exact fun _ _ _ h => h) : wpAnyLast P md ops Q S ds (fuel + 1) l a w := pure_ _ hi hN hc hQ hy ha h
theorem tk (i : Nat) (N : Nat) {oi : Oper} (v : Value) (b : Act) {fuel : Nat} {l : Array Bool} {a : Act} {w : World} (hi : ops[i]? = some oi) (hN : oi.dst = some N) (hc : takeB md ops ds l (l.setIfInBounds i true) i = true) (hy : YieldsIf P ops S oi v a) (hS : S w) (ha : a.put (some N) v = b) (h : wpAnyLast P md ops Q S ds fuel (l.setIfInBounds i true) b w) (hQ : ∀ c a w, Q (.panic c) (a.put oi.dst v) w → Q (.panic c) a w := by exact fun _ _ _ h => h) : wpAnyLast P md ops Q S ds (fuel + 1) l a w := take_ _ hi hN hc hQ hy hS ha h
end

def impl_isImage.f (a0_0 : Int) (a0_1 : Int) (a0_2 : Int) (l0_3 : List Int) : Option Bool := (impl_isShape.f a0_0 a0_1 a0_2).bind fun tz1 => (if tz1 = true then (if (l0_3.length : Int) = (wrap64 ((wrap64 (a0_0 * a0_1)) * a0_2)) then ((impl_areBytes.f l0_3).bind fun tz0 => (some tz0)) else (some false)) else (some false))
theorem impl_isImage.calls (a0_0 : Int) (a0_1 : Int) (a0_2 : Int) (A0_3 : Option Addr) (c0_3 : Nat) (l0_3 : List Int) (r : Bool) (w : World) (hr0_3 : Kd.C (Kd.int .i64) w A0_3 l0_3.length l0_3) (hc0_3 : l0_3.length ≤ c0_3) (h : impl_isImage.f a0_0 a0_1 a0_2 l0_3 = some r) :
  Calls Try.prog 83 #[.agg #[.int .i64 a0_0, .int .i64 a0_1, .int .i64 a0_2, .slice A0_3 l0_3.length c0_3]] w fun e w' => e = .returned (.bool r) ∧ Below w.heap.size w w' := by
 have hu27 := Try.underlying27
 have HR0_3 := Aside0.mk hr0_3
 have HC0_3 := Aside0.mk hc0_3
 clear hr0_3 hc0_3
 have HB := Aside0.mk (Below.refl w.heap.size w)
 have H : ((impl_isShape.f a0_0 a0_1 a0_2).bind fun tz1 => (if tz1 = true then (if (l0_3.length : Int) = (wrap64 ((wrap64 (a0_0 * a0_1)) * a0_2)) then ((impl_areBytes.f l0_3).bind fun tz0 => (some tz0)) else (some false)) else (some false))) = some r := h
 clear h
 replace H := Option.bind_eq_some_iff.mp H
 obtain ⟨tz1, A20, H⟩ := H
 replace H : (if tz1 = true then (if (l0_3.length : Int) = (wrap64 ((wrap64 (a0_0 * a0_1)) * a0_2)) then ((impl_areBytes.f l0_3).bind fun tz0 => (some tz0)) else (some false)) else (some false)) = some r := H
 have A2 := Aside0.mk A20
 clear A20
 by_cases c3 : tz1 = true
 ·subst c3
  have H1 : (if (l0_3.length : Int) = (wrap64 ((wrap64 (a0_0 * a0_1)) * a0_2)) then ((impl_areBytes.f l0_3).bind fun tz0 => (some tz0)) else (some false)) = some r := by rw [if_pos rfl] at H; exact H
  clear H
  have H := H1
  clear H1
  by_cases c4 : (l0_3.length : Int) = (wrap64 ((wrap64 (a0_0 * a0_1)) * a0_2))
  ·rw [if_pos c4] at H
   have c4b0 : ((l0_3.length : Int) == (wrap64 ((wrap64 (a0_0 * a0_1)) * a0_2))) = true := beq_iff_eq.mpr c4
   have c4b1 : ((l0_3.length : Int) != (wrap64 ((wrap64 (a0_0 * a0_1)) * a0_2))) = false := bne_eq_false_iff_eq.mpr c4
   clear c4
   replace H := Option.bind_eq_some_iff.mp H
   obtain ⟨tz0, A50, H⟩ := H
   replace H : (some tz0) = some r := H
   have A5 := Aside0.mk A50
   clear A50
   obtain rfl := Option.some.inj H
   go_enter Try.func83, Try.ntmps83
   go_wp2_with (first | ((with_reducible refine gate_dst (N := 1) rfl ?_); (try (refine gate_guard (by rfl) ?_; dsimp only)); refine box_event (by rfl) (N := 1) (by rfl) (cs := #[.int .i64 a0_0, .int .i64 a0_1, .int .i64 a0_2, .slice A0_3 l0_3.length c0_3]) (t := 27) (by go_simp; done) ?_; intro gbz0 hg w6 hbox hb; replace HB := Aside0.mk (below_step HB.out hb); have BKz0 := Aside0.mk (hbox); clear hb hbox hg; have hcz7_0 : w6.cell? ⟨gbz0, 0, none⟩ = some (.int .i64 a0_0) := (blk_cell BKz0.out 0).trans rfl; have hcz7_1 : w6.cell? ⟨gbz0, 1, none⟩ = some (.int .i64 a0_1) := (blk_cell BKz0.out 1).trans rfl; have hcz7_2 : w6.cell? ⟨gbz0, 2, none⟩ = some (.int .i64 a0_2) := (blk_cell BKz0.out 2).trans rfl; have hcz7_3 : w6.cell? ⟨gbz0, 3, none⟩ = some (.slice A0_3 l0_3.length c0_3) := (blk_cell BKz0.out 3).trans rfl) | ((with_reducible refine gate_callee (f := 131) rfl ?_); refine goesL_ (some 9) rfl rfl Try.func131 (by kernel_rfl) rfl #[.int .i64 a0_0, .int .i64 a0_1, .int .i64 a0_2] rfl (by (try simp only [bitvec_to_nat]); rfl) ?_; (with_reducible refine (impl_isShape.calls a0_0 a0_1 a0_2 true _ A2.out).mono ?_); rintro e w' ⟨rfl, ⟨nd, rfl⟩⟩; refine ⟨_, rfl, ?_⟩) | (go_at_call 132; (with_reducible refine (impl_areBytes.calls _ _ l0_3 tz0 _ ?side1 ?side2 A5.out).mono ?_); (case side1 => repeat (exact (Kd.C_below HR0_3.out (by repeat (with_reducible first | exact HB.out | apply pw_below_drewN))))); (case side2 => exact HC0_3.out); rintro e w' ⟨rfl, ⟨nd, rfl⟩⟩))
   go_ret
   exact ⟨by rfl, by repeat (with_reducible first | exact HB.out | apply pw_below_drewN)⟩
  rw [if_neg c4] at H
  have c4b0 : ((l0_3.length : Int) == (wrap64 ((wrap64 (a0_0 * a0_1)) * a0_2))) = false := beq_eq_false_iff_ne.mpr c4
  have c4b1 : ((l0_3.length : Int) != (wrap64 ((wrap64 (a0_0 * a0_1)) * a0_2))) = true := bne_iff_ne.mpr c4
  obtain rfl := Option.some.inj H
  go_enter Try.func83, Try.ntmps83
  go_wp2_with (first | ((with_reducible refine gate_dst (N := 1) rfl ?_); (try (refine gate_guard (by rfl) ?_; dsimp only)); refine box_event (by rfl) (N := 1) (by rfl) (cs := #[.int .i64 a0_0, .int .i64 a0_1, .int .i64 a0_2, .slice A0_3 l0_3.length c0_3]) (t := 27) (by go_simp; done) ?_; intro gbz0 hg w8 hbox hb; replace HB := Aside0.mk (below_step HB.out hb); have BKz0 := Aside0.mk (hbox); clear hb hbox hg; have hcz9_0 : w8.cell? ⟨gbz0, 0, none⟩ = some (.int .i64 a0_0) := (blk_cell BKz0.out 0).trans rfl; have hcz9_1 : w8.cell? ⟨gbz0, 1, none⟩ = some (.int .i64 a0_1) := (blk_cell BKz0.out 1).trans rfl; have hcz9_2 : w8.cell? ⟨gbz0, 2, none⟩ = some (.int .i64 a0_2) := (blk_cell BKz0.out 2).trans rfl; have hcz9_3 : w8.cell? ⟨gbz0, 3, none⟩ = some (.slice A0_3 l0_3.length c0_3) := (blk_cell BKz0.out 3).trans rfl) | ((with_reducible refine gate_callee (f := 131) rfl ?_); refine goesL_ (some 9) rfl rfl Try.func131 (by kernel_rfl) rfl #[.int .i64 a0_0, .int .i64 a0_1, .int .i64 a0_2] rfl (by (try simp only [bitvec_to_nat]); rfl) ?_; (with_reducible refine (impl_isShape.calls a0_0 a0_1 a0_2 true _ A2.out).mono ?_); rintro e w' ⟨rfl, ⟨nd, rfl⟩⟩; refine ⟨_, rfl, ?_⟩))
  go_ret
  exact ⟨by rfl, by repeat (with_reducible first | exact HB.out | apply pw_below_drewN)⟩
 replace c3 := Bool.eq_false_iff.mpr c3
 subst c3
 have H1 : (some false) = some r := by rw [if_neg (show ¬ (false = true) by decide)] at H; exact H
 clear H
 have H := H1
 clear H1
 obtain rfl := Option.some.inj H
 go_enter Try.func83, Try.ntmps83
 go_wp2_with (first | ((with_reducible refine gate_dst (N := 1) rfl ?_); (try (refine gate_guard (by rfl) ?_; dsimp only)); refine box_event (by rfl) (N := 1) (by rfl) (cs := #[.int .i64 a0_0, .int .i64 a0_1, .int .i64 a0_2, .slice A0_3 l0_3.length c0_3]) (t := 27) (by go_simp; done) ?_; intro gbz0 hg w10 hbox hb; replace HB := Aside0.mk (below_step HB.out hb); have BKz0 := Aside0.mk (hbox); clear hb hbox hg; have hcz11_0 : w10.cell? ⟨gbz0, 0, none⟩ = some (.int .i64 a0_0) := (blk_cell BKz0.out 0).trans rfl; have hcz11_1 : w10.cell? ⟨gbz0, 1, none⟩ = some (.int .i64 a0_1) := (blk_cell BKz0.out 1).trans rfl; have hcz11_2 : w10.cell? ⟨gbz0, 2, none⟩ = some (.int .i64 a0_2) := (blk_cell BKz0.out 2).trans rfl) | ((with_reducible refine gate_callee (f := 131) rfl ?_); refine goesL_ (some 9) rfl rfl Try.func131 (by kernel_rfl) rfl #[.int .i64 a0_0, .int .i64 a0_1, .int .i64 a0_2] rfl (by (try simp only [bitvec_to_nat]); rfl) ?_; (with_reducible refine (impl_isShape.calls a0_0 a0_1 a0_2 false _ A2.out).mono ?_); rintro e w' ⟨rfl, ⟨nd, rfl⟩⟩; refine ⟨_, rfl, ?_⟩))
 go_ret
 exact ⟨by rfl, by repeat (with_reducible first | exact HB.out | apply pw_below_drewN)⟩


def impl_alikeImages.f (a0_0 : Int) (a0_1 : Int) (a0_2 : Int) (l0_3 : List Int) (a1_0 : Int) (a1_1 : Int) (a1_2 : Int) (l1_3 : List Int) : Option Bool := if a0_0 = a1_0 then (if a0_1 = a1_1 then (some (a0_2 == a1_2)) else (some false)) else (some false)
theorem impl_alikeImages.calls (a0_0 : Int) (a0_1 : Int) (a0_2 : Int) (A0_3 : Option Addr) (c0_3 : Nat) (l0_3 : List Int) (a1_0 : Int) (a1_1 : Int) (a1_2 : Int) (A1_3 : Option Addr) (c1_3 : Nat) (l1_3 : List Int) (r : Bool) (w : World) (hr0_3 : Kd.C (Kd.int .i64) w A0_3 l0_3.length l0_3) (hc0_3 : l0_3.length ≤ c0_3) (hr1_3 : Kd.C (Kd.int .i64) w A1_3 l1_3.length l1_3) (hc1_3 : l1_3.length ≤ c1_3) (h : impl_alikeImages.f a0_0 a0_1 a0_2 l0_3 a1_0 a1_1 a1_2 l1_3 = some r) :
  Calls Try.prog 84 #[.agg #[.int .i64 a0_0, .int .i64 a0_1, .int .i64 a0_2, .slice A0_3 l0_3.length c0_3], .agg #[.int .i64 a1_0, .int .i64 a1_1, .int .i64 a1_2, .slice A1_3 l1_3.length c1_3]] w fun e w' => e = .returned (.bool r) ∧ Below w.heap.size w w' := by
 have hu27 := Try.underlying27
 have HR0_3 := mk hr0_3
 have HC0_3 := mk hc0_3
 clear hr0_3 hc0_3
 have HR1_3 := mk hr1_3
 have HC1_3 := mk hc1_3
 clear hr1_3 hc1_3
 have HB := mk (Below.refl w.heap.size w)
 have H : (if a0_0 = a1_0 then (if a0_1 = a1_1 then (some (a0_2 == a1_2)) else (some false)) else (some false)) = some r := h
 clear h
 by_cases c3 : a0_0 = a1_0
 ·rw [if_pos c3] at H
  have c3b0 : (a0_0 == a1_0) = true := beq_iff_eq.mpr c3
  have c3b1 : (a0_0 != a1_0) = false := bne_eq_false_iff_eq.mpr c3
  clear c3
  by_cases c4 : a0_1 = a1_1
  ·rw [if_pos c4] at H
   have c4b0 : (a0_1 == a1_1) = true := beq_iff_eq.mpr c4
   have c4b1 : (a0_1 != a1_1) = false := bne_eq_false_iff_eq.mpr c4
   clear c4
   obtain rfl := Option.some.inj H
   go_enter Try.func84, Try.ntmps84
   go_wp2_with (first | ((with_reducible refine gate_dst (N := 2) rfl ?_); refine box_event (by rfl) (N := 2) (by rfl) (cs := #[.int .i64 a0_0, .int .i64 a0_1, .int .i64 a0_2, .slice A0_3 l0_3.length c0_3]) (t := 27) (by go_simp; done) ?_; intro gbz0 hg w5 hbox hb; replace HB := mk (below_step HB.out hb); have BKz0 := mk (hbox); clear hb hbox hg) | ((with_reducible refine gate_dst (N := 3) rfl ?_); refine box_event (by rfl) (N := 3) (by rfl) (cs := #[.int .i64 a1_0, .int .i64 a1_1, .int .i64 a1_2, .slice A1_3 l1_3.length c1_3]) (t := 27) (by go_simp; done) ?_; intro gbz1 hg w6 hbox hb; replace BKz0 := mk (blk_below BKz0.out hb); replace HB := mk (below_step HB.out hb); have BKz1 := mk (hbox); clear hb hbox hg; have hcz8_0 : w6.cell? ⟨gbz0, 0, none⟩ = some (.int .i64 a0_0) := (blk_cell BKz0.out 0).trans rfl; have hcz8_1 : w6.cell? ⟨gbz0, 1, none⟩ = some (.int .i64 a0_1) := (blk_cell BKz0.out 1).trans rfl; have hcz8_2 : w6.cell? ⟨gbz0, 2, none⟩ = some (.int .i64 a0_2) := (blk_cell BKz0.out 2).trans rfl; have hcz9_0 : w6.cell? ⟨gbz1, 0, none⟩ = some (.int .i64 a1_0) := (blk_cell BKz1.out 0).trans rfl; have hcz9_1 : w6.cell? ⟨gbz1, 1, none⟩ = some (.int .i64 a1_1) := (blk_cell BKz1.out 1).trans rfl; have hcz9_2 : w6.cell? ⟨gbz1, 2, none⟩ = some (.int .i64 a1_2) := (blk_cell BKz1.out 2).trans rfl))
   go_ret
   exact ⟨by rfl, by exact HB.out⟩
  rw [if_neg c4] at H
  have c4b0 : (a0_1 == a1_1) = false := beq_eq_false_iff_ne.mpr c4
  have c4b1 : (a0_1 != a1_1) = true := bne_iff_ne.mpr c4
  obtain rfl := Option.some.inj H
  go_enter Try.func84, Try.ntmps84
  go_wp2_with (first | ((with_reducible refine gate_dst (N := 2) rfl ?_); refine box_event (by rfl) (N := 2) (by rfl) (cs := #[.int .i64 a0_0, .int .i64 a0_1, .int .i64 a0_2, .slice A0_3 l0_3.length c0_3]) (t := 27) (by go_simp; done) ?_; intro gbz0 hg w10 hbox hb; replace HB := mk (below_step HB.out hb); have BKz0 := mk (hbox); clear hb hbox hg) | ((with_reducible refine gate_dst (N := 3) rfl ?_); refine box_event (by rfl) (N := 3) (by rfl) (cs := #[.int .i64 a1_0, .int .i64 a1_1, .int .i64 a1_2, .slice A1_3 l1_3.length c1_3]) (t := 27) (by go_simp; done) ?_; intro gbz1 hg w11 hbox hb; replace BKz0 := mk (blk_below BKz0.out hb); replace HB := mk (below_step HB.out hb); have BKz1 := mk (hbox); clear hb hbox hg; have hcz13_0 : w11.cell? ⟨gbz0, 0, none⟩ = some (.int .i64 a0_0) := (blk_cell BKz0.out 0).trans rfl; have hcz13_1 : w11.cell? ⟨gbz0, 1, none⟩ = some (.int .i64 a0_1) := (blk_cell BKz0.out 1).trans rfl; have hcz14_0 : w11.cell? ⟨gbz1, 0, none⟩ = some (.int .i64 a1_0) := (blk_cell BKz1.out 0).trans rfl; have hcz14_1 : w11.cell? ⟨gbz1, 1, none⟩ = some (.int .i64 a1_1) := (blk_cell BKz1.out 1).trans rfl))
  go_ret
  exact ⟨by rfl, by exact HB.out⟩
 rw [if_neg c3] at H
 have c3b0 : (a0_0 == a1_0) = false := beq_eq_false_iff_ne.mpr c3
 have c3b1 : (a0_0 != a1_0) = true := bne_iff_ne.mpr c3
 obtain rfl := Option.some.inj H
 go_enter Try.func84, Try.ntmps84
 go_wp2_with (first | ((with_reducible refine gate_dst (N := 2) rfl ?_); refine box_event (by rfl) (N := 2) (by rfl) (cs := #[.int .i64 a0_0, .int .i64 a0_1, .int .i64 a0_2, .slice A0_3 l0_3.length c0_3]) (t := 27) (by go_simp; done) ?_; intro gbz0 hg w15 hbox hb; replace HB := mk (below_step HB.out hb); have BKz0 := mk (hbox); clear hb hbox hg) | ((with_reducible refine gate_dst (N := 3) rfl ?_); refine box_event (by rfl) (N := 3) (by rfl) (cs := #[.int .i64 a1_0, .int .i64 a1_1, .int .i64 a1_2, .slice A1_3 l1_3.length c1_3]) (t := 27) (by go_simp; done) ?_; intro gbz1 hg w16 hbox hb; replace BKz0 := mk (blk_below BKz0.out hb); replace HB := mk (below_step HB.out hb); have BKz1 := mk (hbox); clear hb hbox hg; have hcz18_0 : w16.cell? ⟨gbz0, 0, none⟩ = some (.int .i64 a0_0) := (blk_cell BKz0.out 0).trans rfl; have hcz19_0 : w16.cell? ⟨gbz1, 0, none⟩ = some (.int .i64 a1_0) := (blk_cell BKz1.out 0).trans rfl))
 go_ret
 exact ⟨by rfl, by exact HB.out⟩


/- What a block's cells hold, told at once; and what the world at the call's begin held. -/

theorem bc {w W : World} {a : Addr} {v : Value} (h : Below w.heap.size w W) (hc : w.cell? a = some v) : W.cell? a = some v := (h.cell (World.block_lt_of_cell? w _ hc)).trans hc
theorem c2 {w : World} {g t : Nat} {a0 a1 : Value} (h : w.heap[g]? = some (.cells #[a0, a1] t (0, 0))) : w.cell? ⟨g, 0, none⟩ = some a0 ∧ w.cell? ⟨g, 1, none⟩ = some a1 ∧ w.frozen? ⟨g, 0, none⟩ = false ∧ w.frozen? ⟨g, 1, none⟩ = false := ⟨(blk_cell h 0).trans rfl, (blk_cell h 1).trans rfl, blk_frozen h 0, blk_frozen h 1⟩
theorem c3 {w : World} {g t : Nat} {a0 a1 a2 : Value} (h : w.heap[g]? = some (.cells #[a0, a1, a2] t (0, 0))) : w.cell? ⟨g, 0, none⟩ = some a0 ∧ w.cell? ⟨g, 1, none⟩ = some a1 ∧ w.cell? ⟨g, 2, none⟩ = some a2 ∧ w.frozen? ⟨g, 0, none⟩ = false ∧ w.frozen? ⟨g, 1, none⟩ = false ∧ w.frozen? ⟨g, 2, none⟩ = false := ⟨(blk_cell h 0).trans rfl, (blk_cell h 1).trans rfl, (blk_cell h 2).trans rfl, blk_frozen h 0, blk_frozen h 1, blk_frozen h 2⟩
theorem c4 {w : World} {g t : Nat} {a0 a1 a2 a3 : Value} (h : w.heap[g]? = some (.cells #[a0, a1, a2, a3] t (0, 0))) : w.cell? ⟨g, 0, none⟩ = some a0 ∧ w.cell? ⟨g, 1, none⟩ = some a1 ∧ w.cell? ⟨g, 2, none⟩ = some a2 ∧ w.cell? ⟨g, 3, none⟩ = some a3 ∧ w.frozen? ⟨g, 0, none⟩ = false ∧ w.frozen? ⟨g, 1, none⟩ = false ∧ w.frozen? ⟨g, 2, none⟩ = false ∧ w.frozen? ⟨g, 3, none⟩ = false := ⟨(blk_cell h 0).trans rfl, (blk_cell h 1).trans rfl, (blk_cell h 2).trans rfl, (blk_cell h 3).trans rfl, blk_frozen h 0, blk_frozen h 1, blk_frozen h 2, blk_frozen h 3⟩
theorem c6 {w : World} {g t : Nat} {a0 a1 a2 a3 a4 a5 : Value} (h : w.heap[g]? = some (.cells #[a0, a1, a2, a3, a4, a5] t (0, 0))) : w.cell? ⟨g, 0, none⟩ = some a0 ∧ w.cell? ⟨g, 1, none⟩ = some a1 ∧ w.cell? ⟨g, 2, none⟩ = some a2 ∧ w.cell? ⟨g, 3, none⟩ = some a3 ∧ w.cell? ⟨g, 4, none⟩ = some a4 ∧ w.cell? ⟨g, 5, none⟩ = some a5 ∧ w.frozen? ⟨g, 0, none⟩ = false ∧ w.frozen? ⟨g, 1, none⟩ = false ∧ w.frozen? ⟨g, 2, none⟩ = false ∧ w.frozen? ⟨g, 3, none⟩ = false ∧ w.frozen? ⟨g, 4, none⟩ = false ∧ w.frozen? ⟨g, 5, none⟩ = false := ⟨(blk_cell h 0).trans rfl, (blk_cell h 1).trans rfl, (blk_cell h 2).trans rfl, (blk_cell h 3).trans rfl, (blk_cell h 4).trans rfl, (blk_cell h 5).trans rfl, blk_frozen h 0, blk_frozen h 1, blk_frozen h 2, blk_frozen h 3, blk_frozen h 4, blk_frozen h 5⟩
theorem c9 {w : World} {g t : Nat} {a0 a1 a2 a3 a4 a5 a6 a7 a8 : Value} (h : w.heap[g]? = some (.cells #[a0, a1, a2, a3, a4, a5, a6, a7, a8] t (0, 0))) : w.cell? ⟨g, 0, none⟩ = some a0 ∧ w.cell? ⟨g, 1, none⟩ = some a1 ∧ w.cell? ⟨g, 2, none⟩ = some a2 ∧ w.cell? ⟨g, 3, none⟩ = some a3 ∧ w.cell? ⟨g, 4, none⟩ = some a4 ∧ w.cell? ⟨g, 5, none⟩ = some a5 ∧ w.cell? ⟨g, 6, none⟩ = some a6 ∧ w.cell? ⟨g, 7, none⟩ = some a7 ∧ w.cell? ⟨g, 8, none⟩ = some a8 ∧ w.frozen? ⟨g, 0, none⟩ = false ∧ w.frozen? ⟨g, 1, none⟩ = false ∧ w.frozen? ⟨g, 2, none⟩ = false ∧ w.frozen? ⟨g, 3, none⟩ = false ∧ w.frozen? ⟨g, 4, none⟩ = false ∧ w.frozen? ⟨g, 5, none⟩ = false ∧ w.frozen? ⟨g, 6, none⟩ = false ∧ w.frozen? ⟨g, 7, none⟩ = false ∧ w.frozen? ⟨g, 8, none⟩ = false := ⟨(blk_cell h 0).trans rfl, (blk_cell h 1).trans rfl, (blk_cell h 2).trans rfl, (blk_cell h 3).trans rfl, (blk_cell h 4).trans rfl, (blk_cell h 5).trans rfl, (blk_cell h 6).trans rfl, (blk_cell h 7).trans rfl, (blk_cell h 8).trans rfl, blk_frozen h 0, blk_frozen h 1, blk_frozen h 2, blk_frozen h 3, blk_frozen h 4, blk_frozen h 5, blk_frozen h 6, blk_frozen h 7, blk_frozen h 8⟩
theorem f4 {w : World} {g q t : Nat} {cs : Array Value} {a b c z : Value} (h : w.heap[q]? = some (.cells cs t (0, 0))) (n : q ≠ g) : ((((w.setCell ⟨g, 0, none⟩ a).setCell ⟨g, 1, none⟩ b).setCell ⟨g, 2, none⟩ c).setCell ⟨g, 3, none⟩ z).heap[q]? = some (.cells cs t (0, 0)) := blk_far (blk_far (blk_far (blk_far h n _) n _) n _) n _
theorem e4 {w : World} {g : Nat} {x : Addr} {v : Value} {a b c z : Value} (n : x.block ≠ g) (h : w.cell? x = some v) : ((((w.setCell ⟨g, 0, none⟩ a).setCell ⟨g, 1, none⟩ b).setCell ⟨g, 2, none⟩ c).setCell ⟨g, 3, none⟩ z).cell? x = some v := (cell_far n _).trans ((cell_far n _).trans ((cell_far n _).trans ((cell_far n _).trans h)))

mutual
def impl_GapOf.j0 : Nat → Bool → Int → Int → Int → List Int → Int → Int → Int → List Int → Option (Int)
 | 0, _, _, _, _, _, _, _, _, _ => none
 | k + 1, x21, xz5, xz6, xz7, xz4, xz1, xz2, xz3, xz0 => if x21 = true then (some (-1)) else (impl_GapOf.l0 k 0 xz4 (xz4.length : Int) 0 xz1 xz2 xz3 xz0)
def impl_GapOf.l0 : Nat → Int → List Int → Int → Int → Int → Int → Int → List Int → Option (Int)
 | 0, _, _, _, _, _, _, _, _ => none
 | k + 1, x5, x23, x24, x25, xz1, xz2, xz3, xz0 => if x25 < x24 then (if 0 ≤ x25 then (if x25 < (x23.length : Int) then (if x25 < (xz0.length : Int) then (impl_GapOf.l0 k (wrap64 (x5 + (wrap64 ((wrap64 ((rd x23 x25) - (rd xz0 x25))) * (wrap64 ((rd x23 x25) - (rd xz0 x25))))))) x23 x24 (wrap64 (x25 + 1)) xz1 xz2 xz3 xz0) else none) else none) else none) else (some x5)
end
def impl_GapOf.f (k : Nat) (a0_0 : Int) (a0_1 : Int) (a0_2 : Int) (l0_3 : List Int) (a1_0 : Int) (a1_1 : Int) (a1_2 : Int) (l1_3 : List Int) : Option Int := (impl_isImage.f a0_0 a0_1 a0_2 l0_3).bind fun tz2 => (if tz2 = true then ((impl_isImage.f a1_0 a1_1 a1_2 l1_3).bind fun tz1 => (if tz1 = true then ((impl_alikeImages.f a0_0 a0_1 a0_2 l0_3 a1_0 a1_1 a1_2 l1_3).bind fun tz0 => (impl_GapOf.j0 k (!tz0) a0_0 a0_1 a0_2 l0_3 a1_0 a1_1 a1_2 l1_3)) else (impl_GapOf.j0 k true a0_0 a0_1 a0_2 l0_3 a1_0 a1_1 a1_2 l1_3))) else (impl_GapOf.j0 k true a0_0 a0_1 a0_2 l0_3 a1_0 a1_1 a1_2 l1_3))
theorem impl_GapOf.calls (k : Nat) (a0_0 : Int) (a0_1 : Int) (a0_2 : Int) (A0_3 : Option Addr) (c0_3 : Nat) (l0_3 : List Int) (a1_0 : Int) (a1_1 : Int) (a1_2 : Int) (A1_3 : Option Addr) (c1_3 : Nat) (l1_3 : List Int) (r : Int) (w : World) (hr0_3 : Kd.C (Kd.int .i64) w A0_3 l0_3.length l0_3) (hc0_3 : l0_3.length ≤ c0_3) (hr1_3 : Kd.C (Kd.int .i64) w A1_3 l1_3.length l1_3) (hc1_3 : l1_3.length ≤ c1_3) (h : impl_GapOf.f k a0_0 a0_1 a0_2 l0_3 a1_0 a1_1 a1_2 l1_3 = some r) :
  Calls Try.prog 23 #[.agg #[.int .i64 a0_0, .int .i64 a0_1, .int .i64 a0_2, .slice A0_3 l0_3.length c0_3], .agg #[.int .i64 a1_0, .int .i64 a1_1, .int .i64 a1_2, .slice A1_3 l1_3.length c1_3]] w fun e w' => e = .returned (.int .i64 r) ∧ Below w.heap.size w w' := by
 have hu27 := Try.underlying27
 have HR0_3 := mk hr0_3
 have HC0_3 := mk hc0_3
 clear hr0_3 hc0_3
 have HR1_3 := mk hr1_3
 have HC1_3 := mk hc1_3
 clear hr1_3 hc1_3
 have HB := mk (Below.refl w.heap.size w)
 have H : ((impl_isImage.f a0_0 a0_1 a0_2 l0_3).bind fun tz2 => (if tz2 = true then ((impl_isImage.f a1_0 a1_1 a1_2 l1_3).bind fun tz1 => (if tz1 = true then ((impl_alikeImages.f a0_0 a0_1 a0_2 l0_3 a1_0 a1_1 a1_2 l1_3).bind fun tz0 => (impl_GapOf.j0 k (!tz0) a0_0 a0_1 a0_2 l0_3 a1_0 a1_1 a1_2 l1_3)) else (impl_GapOf.j0 k true a0_0 a0_1 a0_2 l0_3 a1_0 a1_1 a1_2 l1_3))) else (impl_GapOf.j0 k true a0_0 a0_1 a0_2 l0_3 a1_0 a1_1 a1_2 l1_3))) = some r := h
 clear h
 have HC3 := mk H
 clear H
 go_enter Try.func23, Try.ntmps23
 go_upto_region 1 with (first | ((with_reducible refine gate_dst (N := 2) rfl ?_); refine box_event (by rfl) (N := 2) (by rfl) (cs := #[.int .i64 a0_0, .int .i64 a0_1, .int .i64 a0_2, .slice A0_3 l0_3.length c0_3]) (t := 27) (by go_simp; done) ?_; intro gbz1 hg w4 hbox hb; replace HB := mk (below_step HB.out hb); have BKz1 := mk (hbox); clear hb hbox hg) | ((with_reducible refine gate_dst (N := 3) rfl ?_); refine box_event (by rfl) (N := 3) (by rfl) (cs := #[.int .i64 a1_0, .int .i64 a1_1, .int .i64 a1_2, .slice A1_3 l1_3.length c1_3]) (t := 27) (by go_simp; done) ?_; intro gbz0 hg w5 hbox hb; replace BKz1 := mk (blk_below BKz1.out hb); replace HB := mk (below_step HB.out hb); have BKz0 := mk (hbox); clear hb hbox hg))
 repeat (go_quiet (first | ((with_reducible refine gate_dst (N := 2) rfl ?_); refine box_event ?hg (N := 2) ?hd (cs := #[.int .i64 a0_0, .int .i64 a0_1, .int .i64 a0_2, .slice A0_3 l0_3.length c0_3]) (t := 27) ?hr ?_; (case hd => rfl); (case hg => rfl); (case hr => first | (go_simp; done) | (go_simp; rfl)); intro gbz1 hg w4 hbox hb; have BKz1 := mk (hbox); have GWz0 := mk ((by rw [hg]; exact (below_size (by repeat (first | (with_reducible first | exact HB.out | apply below_alloc | apply pw_below_drewN | apply below_drew1) | exact HB.out))) : w.heap.size ≤ gbz1)); have GEz0 := mk ((by rw [hg]; exact (below_size (by repeat (first | (with_reducible first | exact HB.out | apply below_alloc | apply pw_below_drewN | apply below_drew1) | exact HB.out))) : w.heap.size ≤ gbz1)); replace HB := mk (below_step (by repeat (first | (with_reducible first | exact HB.out | apply below_alloc | apply pw_below_drewN | apply below_drew1) | exact HB.out)) hb); clear hb hbox hg) | ((with_reducible refine gate_dst (N := 3) rfl ?_); refine box_event ?hg (N := 3) ?hd (cs := #[.int .i64 a1_0, .int .i64 a1_1, .int .i64 a1_2, .slice A1_3 l1_3.length c1_3]) (t := 27) ?hr ?_; (case hd => rfl); (case hg => rfl); (case hr => first | (go_simp; done) | (go_simp; rfl)); intro gbz0 hg w5 hbox hb; have BKz0 := mk (hbox); have GWz1 := mk ((by rw [hg]; exact (below_size (by repeat (first | (with_reducible first | exact HB.out | apply below_alloc | apply pw_below_drewN | apply below_drew1 | refine below_set ?_ GEz0.out) | exact HB.out))) : w.heap.size ≤ gbz0)); have GEz1 := mk ((by rw [hg]; exact (below_size (by repeat (first | (with_reducible first | exact HB.out | apply below_alloc | apply pw_below_drewN | apply below_drew1 | refine below_set ?_ GEz0.out) | exact HB.out))) : w.heap.size ≤ gbz0)); replace HB := mk (below_step (by repeat (first | (with_reducible first | exact HB.out | apply below_alloc | apply pw_below_drewN | apply below_drew1 | refine below_set ?_ GEz0.out) | exact HB.out)) hb); have NBz0 := mk ((by rw [hg]; exact Nat.ne_of_lt (blk_lt (g := gbz1) (o := .cells #[.int .i64 a0_0, .int .i64 a0_1, .int .i64 a0_2, .slice A0_3 l0_3.length c0_3] 27 (0, 0)) (by exact BKz1.out)) : gbz1 ≠ gbz0)); have NBz1 := mk ((by rw [hg]; exact Nat.ne_of_gt (blk_lt (g := gbz1) (o := .cells #[.int .i64 a0_0, .int .i64 a0_1, .int .i64 a0_2, .slice A0_3 l0_3.length c0_3] 27 (0, 0)) (by exact BKz1.out)) : gbz0 ≠ gbz1)); replace BKz1 := mk (blk_below (g := gbz1) (o := .cells #[.int .i64 a0_0, .int .i64 a0_1, .int .i64 a0_2, .slice A0_3 l0_3.length c0_3] 27 (0, 0)) (by exact BKz1.out) hb); clear hb hbox hg)); go_upto_region 1 with (first | ((with_reducible refine gate_dst (N := 2) rfl ?_); refine box_event ?hg (N := 2) ?hd (cs := #[.int .i64 a0_0, .int .i64 a0_1, .int .i64 a0_2, .slice A0_3 l0_3.length c0_3]) (t := 27) ?hr ?_; (case hd => rfl); (case hg => rfl); (case hr => first | (go_simp; done) | (go_simp; rfl)); intro gbz1 hg w4 hbox hb; have BKz1 := mk (hbox); have GWz0 := mk ((by rw [hg]; exact (below_size (by repeat (first | (with_reducible first | exact HB.out | apply below_alloc | apply pw_below_drewN | apply below_drew1) | exact HB.out))) : w.heap.size ≤ gbz1)); have GEz0 := mk ((by rw [hg]; exact (below_size (by repeat (first | (with_reducible first | exact HB.out | apply below_alloc | apply pw_below_drewN | apply below_drew1) | exact HB.out))) : w.heap.size ≤ gbz1)); replace HB := mk (below_step (by repeat (first | (with_reducible first | exact HB.out | apply below_alloc | apply pw_below_drewN | apply below_drew1) | exact HB.out)) hb); clear hb hbox hg) | ((with_reducible refine gate_dst (N := 3) rfl ?_); refine box_event ?hg (N := 3) ?hd (cs := #[.int .i64 a1_0, .int .i64 a1_1, .int .i64 a1_2, .slice A1_3 l1_3.length c1_3]) (t := 27) ?hr ?_; (case hd => rfl); (case hg => rfl); (case hr => first | (go_simp; done) | (go_simp; rfl)); intro gbz0 hg w5 hbox hb; have BKz0 := mk (hbox); have GWz1 := mk ((by rw [hg]; exact (below_size (by repeat (first | (with_reducible first | exact HB.out | apply below_alloc | apply pw_below_drewN | apply below_drew1 | refine below_set ?_ GEz0.out) | exact HB.out))) : w.heap.size ≤ gbz0)); have GEz1 := mk ((by rw [hg]; exact (below_size (by repeat (first | (with_reducible first | exact HB.out | apply below_alloc | apply pw_below_drewN | apply below_drew1 | refine below_set ?_ GEz0.out) | exact HB.out))) : w.heap.size ≤ gbz0)); replace HB := mk (below_step (by repeat (first | (with_reducible first | exact HB.out | apply below_alloc | apply pw_below_drewN | apply below_drew1 | refine below_set ?_ GEz0.out) | exact HB.out)) hb); have NBz0 := mk ((by rw [hg]; exact Nat.ne_of_lt (blk_lt (g := gbz1) (o := .cells #[.int .i64 a0_0, .int .i64 a0_1, .int .i64 a0_2, .slice A0_3 l0_3.length c0_3] 27 (0, 0)) (by exact BKz1.out)) : gbz1 ≠ gbz0)); have NBz1 := mk ((by rw [hg]; exact Nat.ne_of_gt (blk_lt (g := gbz1) (o := .cells #[.int .i64 a0_0, .int .i64 a0_1, .int .i64 a0_2, .slice A0_3 l0_3.length c0_3] 27 (0, 0)) (by exact BKz1.out)) : gbz0 ≠ gbz1)); replace BKz1 := mk (blk_below (g := gbz1) (o := .cells #[.int .i64 a0_0, .int .i64 a0_1, .int .i64 a0_2, .slice A0_3 l0_3.length c0_3] 27 (0, 0)) (by exact BKz1.out) hb); clear hb hbox hg)))
 go_cut [21] (fun v21 wc => ∃ (kq : Nat) (x21_2 : Bool), v21 = .bool x21_2 ∧ Aside0 (impl_GapOf.j0 kq x21_2 a0_0 a0_1 a0_2 l0_3 a1_0 a1_1 a1_2 l1_3 = some r) ∧ Aside0 (kq ≤ k) ∧ Aside0 (wc.heap[gbz1]? = some (.cells #[.int .i64 a0_0, .int .i64 a0_1, .int .i64 a0_2, (.slice A0_3 l0_3.length c0_3)] 27 (0, 0))) ∧ Aside0 (wc.heap[gbz0]? = some (.cells #[.int .i64 a1_0, .int .i64 a1_1, .int .i64 a1_2, (.slice A1_3 l1_3.length c1_3)] 27 (0, 0))) ∧ Aside0 (Below w.heap.size w wc))
 case first =>
  have H := HC3.out
  clear HC3
  replace H := Option.bind_eq_some_iff.mp H
  obtain ⟨tz2, A60, H⟩ := H
  replace H : (if tz2 = true then ((impl_isImage.f a1_0 a1_1 a1_2 l1_3).bind fun tz1 => (if tz1 = true then ((impl_alikeImages.f a0_0 a0_1 a0_2 l0_3 a1_0 a1_1 a1_2 l1_3).bind fun tz0 => (impl_GapOf.j0 k (!tz0) a0_0 a0_1 a0_2 l0_3 a1_0 a1_1 a1_2 l1_3)) else (impl_GapOf.j0 k true a0_0 a0_1 a0_2 l0_3 a1_0 a1_1 a1_2 l1_3))) else (impl_GapOf.j0 k true a0_0 a0_1 a0_2 l0_3 a1_0 a1_1 a1_2 l1_3)) = some r := H
  have A6 := mk A60
  clear A60
  by_cases c7 : tz2 = true
  ·subst c7
   have H1 : ((impl_isImage.f a1_0 a1_1 a1_2 l1_3).bind fun tz1 => (if tz1 = true then ((impl_alikeImages.f a0_0 a0_1 a0_2 l0_3 a1_0 a1_1 a1_2 l1_3).bind fun tz0 => (impl_GapOf.j0 k (!tz0) a0_0 a0_1 a0_2 l0_3 a1_0 a1_1 a1_2 l1_3)) else (impl_GapOf.j0 k true a0_0 a0_1 a0_2 l0_3 a1_0 a1_1 a1_2 l1_3))) = some r := by rw [if_pos rfl] at H; exact H
   clear H
   have H := H1
   clear H1
   replace H := Option.bind_eq_some_iff.mp H
   obtain ⟨tz1, A80, H⟩ := H
   replace H : (if tz1 = true then ((impl_alikeImages.f a0_0 a0_1 a0_2 l0_3 a1_0 a1_1 a1_2 l1_3).bind fun tz0 => (impl_GapOf.j0 k (!tz0) a0_0 a0_1 a0_2 l0_3 a1_0 a1_1 a1_2 l1_3)) else (impl_GapOf.j0 k true a0_0 a0_1 a0_2 l0_3 a1_0 a1_1 a1_2 l1_3)) = some r := H
   have A8 := mk A80
   clear A80
   by_cases c9 : tz1 = true
   ·subst c9
    have H1 : ((impl_alikeImages.f a0_0 a0_1 a0_2 l0_3 a1_0 a1_1 a1_2 l1_3).bind fun tz0 => (impl_GapOf.j0 k (!tz0) a0_0 a0_1 a0_2 l0_3 a1_0 a1_1 a1_2 l1_3)) = some r := by rw [if_pos rfl] at H; exact H
    clear H
    have H := H1
    clear H1
    replace H := Option.bind_eq_some_iff.mp H
    obtain ⟨tz0, A100, H⟩ := H
    replace H : (impl_GapOf.j0 k (!tz0) a0_0 a0_1 a0_2 l0_3 a1_0 a1_1 a1_2 l1_3) = some r := H
    have A10 := mk A100
    clear A100
    have H' := mk H
    clear H
    obtain ⟨hcz12_0, hcz12_1, hcz12_2, hcz12_3, -⟩ := c4 BKz1.out
    go_wp2_with (first | (go_at_call 83; (with_reducible refine (impl_isImage.calls a0_0 a0_1 a0_2 _ _ l0_3 true _ ?side1 ?side2 A6.out).mono ?_); (case side1 => repeat (exact (Kd.C_below HR0_3.out HB.out))); (case side2 => exact HC0_3.out); rintro e w13 ⟨rfl, hb⟩; replace BKz1 := mk (blk_below BKz1.out hb); replace BKz0 := mk (blk_below BKz0.out hb); replace HB := mk (below_step HB.out hb); (try clear hb); obtain ⟨hcz14_0, hcz14_1, hcz14_2, -⟩ := c4 BKz0.out; have hcz14_3 : w13.cell? ⟨gbz0, 3, none⟩ = some (.slice A1_3 l1_3.length c1_3) := (blk_cell BKz0.out 3).trans rfl) | (go_at_call 83; (with_reducible refine (impl_isImage.calls a1_0 a1_1 a1_2 _ _ l1_3 true _ ?side1 ?side2 A8.out).mono ?_); (case side1 => repeat (exact (Kd.C_below HR1_3.out HB.out))); (case side2 => exact HC1_3.out); rintro e w15 ⟨rfl, hb⟩; replace BKz1 := mk (blk_below BKz1.out hb); replace BKz0 := mk (blk_below BKz0.out hb); replace HB := mk (below_step HB.out hb); (try clear hb); obtain ⟨hcz16_0, hcz16_1, hcz16_2, hcz16_3, -⟩ := c4 BKz1.out; obtain ⟨hcz17_0, hcz17_1, hcz17_2, -⟩ := c4 BKz0.out; have hcz17_3 : w15.cell? ⟨gbz0, 3, none⟩ = some (.slice A1_3 l1_3.length c1_3) := (blk_cell BKz0.out 3).trans rfl) | (go_at_call 84; (with_reducible refine (impl_alikeImages.calls a0_0 a0_1 a0_2 _ _ l0_3 a1_0 a1_1 a1_2 _ _ l1_3 tz0 _ ?side1 ?side2 ?side3 ?side4 A10.out).mono ?_); (case side1 => repeat (exact (Kd.C_below HR0_3.out HB.out))); (case side2 => exact HC0_3.out); (case side3 => repeat (exact (Kd.C_below HR1_3.out HB.out))); (case side4 => exact HC1_3.out); rintro e w18 ⟨rfl, hb⟩; replace BKz1 := mk (blk_below BKz1.out hb); replace BKz0 := mk (blk_below BKz0.out hb); replace HB := mk (below_step HB.out hb); (try clear hb)))
    repeat (go_quiet (first | (go_at_call 83; (with_reducible refine (impl_isImage.calls a0_0 a0_1 a0_2 _ _ l0_3 true _ ?side1 ?side2 A6.out).mono ?_); (case side1 => repeat (first | exact (Kd.C_below HR0_3.out HB.out) | (with_reducible refine Kd.C_alloc ?_ _) | (with_reducible refine Kd.C_drewN ?_ _) | (with_reducible refine Kd.C_drew ?_))); (case side2 => exact HC0_3.out); rintro e w13 ⟨rfl, hb⟩; replace BKz1 := mk (blk_below (g := gbz1) (o := .cells #[.int .i64 a0_0, .int .i64 a0_1, .int .i64 a0_2, .slice A0_3 l0_3.length c0_3] 27 (0, 0)) (by exact BKz1.out) hb); replace BKz0 := mk (blk_below (g := gbz0) (o := .cells #[.int .i64 a1_0, .int .i64 a1_1, .int .i64 a1_2, .slice A1_3 l1_3.length c1_3] 27 (0, 0)) (by exact BKz0.out) hb); replace HB := mk (below_step (by repeat (first | (with_reducible first | exact HB.out | apply below_alloc | apply pw_below_drewN | apply below_drew1 | refine below_set ?_ GEz0.out | refine below_set ?_ GEz1.out) | exact HB.out)) hb); (try clear hb); (try clear hb2); (try clear hk); (try clear hi); obtain ⟨hcz14_0, hcz14_1, hcz14_2, hcz14_3, hfz14_0, hfz14_1, hfz14_2, -⟩ := c4 BKz0.out; have hfz14_3 := blk_frozen BKz0.out 3) | (go_at_call 83; (with_reducible refine (impl_isImage.calls a1_0 a1_1 a1_2 _ _ l1_3 true _ ?side1 ?side2 A8.out).mono ?_); (case side1 => repeat (first | exact (Kd.C_below HR1_3.out HB.out) | (with_reducible refine Kd.C_alloc ?_ _) | (with_reducible refine Kd.C_drewN ?_ _) | (with_reducible refine Kd.C_drew ?_))); (case side2 => exact HC1_3.out); rintro e w15 ⟨rfl, hb⟩; replace BKz1 := mk (blk_below (g := gbz1) (o := .cells #[.int .i64 a0_0, .int .i64 a0_1, .int .i64 a0_2, .slice A0_3 l0_3.length c0_3] 27 (0, 0)) (by exact BKz1.out) hb); replace BKz0 := mk (blk_below (g := gbz0) (o := .cells #[.int .i64 a1_0, .int .i64 a1_1, .int .i64 a1_2, .slice A1_3 l1_3.length c1_3] 27 (0, 0)) (by exact BKz0.out) hb); replace HB := mk (below_step (by repeat (first | (with_reducible first | exact HB.out | apply below_alloc | apply pw_below_drewN | apply below_drew1 | refine below_set ?_ GEz0.out | refine below_set ?_ GEz1.out) | exact HB.out)) hb); (try clear hb); (try clear hb2); (try clear hk); (try clear hi); obtain ⟨hcz16_0, hcz16_1, hcz16_2, hcz16_3, hfz16_0, hfz16_1, hfz16_2, hfz16_3⟩ := c4 BKz1.out; obtain ⟨hcz17_0, hcz17_1, hcz17_2, hcz17_3, hfz17_0, hfz17_1, hfz17_2, -⟩ := c4 BKz0.out; have hfz17_3 := blk_frozen BKz0.out 3) | (go_at_call 84; (with_reducible refine (impl_alikeImages.calls a0_0 a0_1 a0_2 _ _ l0_3 a1_0 a1_1 a1_2 _ _ l1_3 tz0 _ ?side1 ?side2 ?side3 ?side4 A10.out).mono ?_); (case side1 => repeat (first | exact (Kd.C_below HR0_3.out HB.out) | (with_reducible refine Kd.C_alloc ?_ _) | (with_reducible refine Kd.C_drewN ?_ _) | (with_reducible refine Kd.C_drew ?_))); (case side2 => exact HC0_3.out); (case side3 => repeat (first | exact (Kd.C_below HR1_3.out HB.out) | (with_reducible refine Kd.C_alloc ?_ _) | (with_reducible refine Kd.C_drewN ?_ _) | (with_reducible refine Kd.C_drew ?_))); (case side4 => exact HC1_3.out); rintro e w18 ⟨rfl, hb⟩; replace BKz1 := mk (blk_below (g := gbz1) (o := .cells #[.int .i64 a0_0, .int .i64 a0_1, .int .i64 a0_2, .slice A0_3 l0_3.length c0_3] 27 (0, 0)) (by exact BKz1.out) hb); replace BKz0 := mk (blk_below (g := gbz0) (o := .cells #[.int .i64 a1_0, .int .i64 a1_1, .int .i64 a1_2, .slice A1_3 l1_3.length c1_3] 27 (0, 0)) (by exact BKz0.out) hb); replace HB := mk (below_step (by repeat (first | (with_reducible first | exact HB.out | apply below_alloc | apply pw_below_drewN | apply below_drew1 | refine below_set ?_ GEz0.out | refine below_set ?_ GEz1.out) | exact HB.out)) hb); (try clear hb); (try clear hb2); (try clear hk); (try clear hi))); try go_wp2_with (first | (go_at_call 83; (with_reducible refine (impl_isImage.calls a0_0 a0_1 a0_2 _ _ l0_3 true _ ?side1 ?side2 A6.out).mono ?_); (case side1 => repeat (first | exact (Kd.C_below HR0_3.out HB.out) | (with_reducible refine Kd.C_alloc ?_ _) | (with_reducible refine Kd.C_drewN ?_ _) | (with_reducible refine Kd.C_drew ?_))); (case side2 => exact HC0_3.out); rintro e w13 ⟨rfl, hb⟩; replace BKz1 := mk (blk_below (g := gbz1) (o := .cells #[.int .i64 a0_0, .int .i64 a0_1, .int .i64 a0_2, .slice A0_3 l0_3.length c0_3] 27 (0, 0)) (by exact BKz1.out) hb); replace BKz0 := mk (blk_below (g := gbz0) (o := .cells #[.int .i64 a1_0, .int .i64 a1_1, .int .i64 a1_2, .slice A1_3 l1_3.length c1_3] 27 (0, 0)) (by exact BKz0.out) hb); replace HB := mk (below_step (by repeat (first | (with_reducible first | exact HB.out | apply below_alloc | apply pw_below_drewN | apply below_drew1 | refine below_set ?_ GEz0.out | refine below_set ?_ GEz1.out) | exact HB.out)) hb); (try clear hb); (try clear hb2); (try clear hk); (try clear hi); obtain ⟨hcz14_0, hcz14_1, hcz14_2, hcz14_3, hfz14_0, hfz14_1, hfz14_2, -⟩ := c4 BKz0.out; have hfz14_3 := blk_frozen BKz0.out 3) | (go_at_call 83; (with_reducible refine (impl_isImage.calls a1_0 a1_1 a1_2 _ _ l1_3 true _ ?side1 ?side2 A8.out).mono ?_); (case side1 => repeat (first | exact (Kd.C_below HR1_3.out HB.out) | (with_reducible refine Kd.C_alloc ?_ _) | (with_reducible refine Kd.C_drewN ?_ _) | (with_reducible refine Kd.C_drew ?_))); (case side2 => exact HC1_3.out); rintro e w15 ⟨rfl, hb⟩; replace BKz1 := mk (blk_below (g := gbz1) (o := .cells #[.int .i64 a0_0, .int .i64 a0_1, .int .i64 a0_2, .slice A0_3 l0_3.length c0_3] 27 (0, 0)) (by exact BKz1.out) hb); replace BKz0 := mk (blk_below (g := gbz0) (o := .cells #[.int .i64 a1_0, .int .i64 a1_1, .int .i64 a1_2, .slice A1_3 l1_3.length c1_3] 27 (0, 0)) (by exact BKz0.out) hb); replace HB := mk (below_step (by repeat (first | (with_reducible first | exact HB.out | apply below_alloc | apply pw_below_drewN | apply below_drew1 | refine below_set ?_ GEz0.out | refine below_set ?_ GEz1.out) | exact HB.out)) hb); (try clear hb); (try clear hb2); (try clear hk); (try clear hi); obtain ⟨hcz16_0, hcz16_1, hcz16_2, hcz16_3, hfz16_0, hfz16_1, hfz16_2, hfz16_3⟩ := c4 BKz1.out; obtain ⟨hcz17_0, hcz17_1, hcz17_2, hcz17_3, hfz17_0, hfz17_1, hfz17_2, -⟩ := c4 BKz0.out; have hfz17_3 := blk_frozen BKz0.out 3) | (go_at_call 84; (with_reducible refine (impl_alikeImages.calls a0_0 a0_1 a0_2 _ _ l0_3 a1_0 a1_1 a1_2 _ _ l1_3 tz0 _ ?side1 ?side2 ?side3 ?side4 A10.out).mono ?_); (case side1 => repeat (first | exact (Kd.C_below HR0_3.out HB.out) | (with_reducible refine Kd.C_alloc ?_ _) | (with_reducible refine Kd.C_drewN ?_ _) | (with_reducible refine Kd.C_drew ?_))); (case side2 => exact HC0_3.out); (case side3 => repeat (first | exact (Kd.C_below HR1_3.out HB.out) | (with_reducible refine Kd.C_alloc ?_ _) | (with_reducible refine Kd.C_drewN ?_ _) | (with_reducible refine Kd.C_drew ?_))); (case side4 => exact HC1_3.out); rintro e w18 ⟨rfl, hb⟩; replace BKz1 := mk (blk_below (g := gbz1) (o := .cells #[.int .i64 a0_0, .int .i64 a0_1, .int .i64 a0_2, .slice A0_3 l0_3.length c0_3] 27 (0, 0)) (by exact BKz1.out) hb); replace BKz0 := mk (blk_below (g := gbz0) (o := .cells #[.int .i64 a1_0, .int .i64 a1_1, .int .i64 a1_2, .slice A1_3 l1_3.length c1_3] 27 (0, 0)) (by exact BKz0.out) hb); replace HB := mk (below_step (by repeat (first | (with_reducible first | exact HB.out | apply below_alloc | apply pw_below_drewN | apply below_drew1 | refine below_set ?_ GEz0.out | refine below_set ?_ GEz1.out) | exact HB.out)) hb); (try clear hb); (try clear hb2); (try clear hk); (try clear hi))))
    go_meet
    case rel => exact ⟨_, (!tz0), (by rfl), H', ⟨by omega⟩, BKz1, BKz0, HB⟩
   replace c9 := Bool.eq_false_iff.mpr c9
   subst c9
   have H1 : (impl_GapOf.j0 k true a0_0 a0_1 a0_2 l0_3 a1_0 a1_1 a1_2 l1_3) = some r := by rw [if_neg (show ¬ (false = true) by decide)] at H; exact H
   clear H
   have H := H1
   clear H1
   have H' := mk H
   clear H
   obtain ⟨hcz20_0, hcz20_1, hcz20_2, hcz20_3, -⟩ := c4 BKz1.out
   go_wp2_with (first | (go_at_call 83; (with_reducible refine (impl_isImage.calls a0_0 a0_1 a0_2 _ _ l0_3 true _ ?side1 ?side2 A6.out).mono ?_); (case side1 => repeat (exact (Kd.C_below HR0_3.out HB.out))); (case side2 => exact HC0_3.out); rintro e w21 ⟨rfl, hb⟩; replace BKz1 := mk (blk_below BKz1.out hb); replace BKz0 := mk (blk_below BKz0.out hb); replace HB := mk (below_step HB.out hb); (try clear hb); obtain ⟨hcz22_0, hcz22_1, hcz22_2, -⟩ := c4 BKz0.out; have hcz22_3 : w21.cell? ⟨gbz0, 3, none⟩ = some (.slice A1_3 l1_3.length c1_3) := (blk_cell BKz0.out 3).trans rfl) | (go_at_call 83; (with_reducible refine (impl_isImage.calls a1_0 a1_1 a1_2 _ _ l1_3 false _ ?side1 ?side2 A8.out).mono ?_); (case side1 => repeat (exact (Kd.C_below HR1_3.out HB.out))); (case side2 => exact HC1_3.out); rintro e w23 ⟨rfl, hb⟩; replace BKz1 := mk (blk_below BKz1.out hb); replace BKz0 := mk (blk_below BKz0.out hb); replace HB := mk (below_step HB.out hb); (try clear hb)))
   repeat (go_quiet (first | (go_at_call 83; (with_reducible refine (impl_isImage.calls a0_0 a0_1 a0_2 _ _ l0_3 true _ ?side1 ?side2 A6.out).mono ?_); (case side1 => repeat (first | exact (Kd.C_below HR0_3.out HB.out) | (with_reducible refine Kd.C_alloc ?_ _) | (with_reducible refine Kd.C_drewN ?_ _) | (with_reducible refine Kd.C_drew ?_))); (case side2 => exact HC0_3.out); rintro e w21 ⟨rfl, hb⟩; replace BKz1 := mk (blk_below (g := gbz1) (o := .cells #[.int .i64 a0_0, .int .i64 a0_1, .int .i64 a0_2, .slice A0_3 l0_3.length c0_3] 27 (0, 0)) (by exact BKz1.out) hb); replace BKz0 := mk (blk_below (g := gbz0) (o := .cells #[.int .i64 a1_0, .int .i64 a1_1, .int .i64 a1_2, .slice A1_3 l1_3.length c1_3] 27 (0, 0)) (by exact BKz0.out) hb); replace HB := mk (below_step (by repeat (first | (with_reducible first | exact HB.out | apply below_alloc | apply pw_below_drewN | apply below_drew1 | refine below_set ?_ GEz0.out | refine below_set ?_ GEz1.out) | exact HB.out)) hb); (try clear hb); (try clear hb2); (try clear hk); (try clear hi); obtain ⟨hcz22_0, hcz22_1, hcz22_2, hcz22_3, hfz22_0, hfz22_1, hfz22_2, -⟩ := c4 BKz0.out; have hfz22_3 := blk_frozen BKz0.out 3) | (go_at_call 83; (with_reducible refine (impl_isImage.calls a1_0 a1_1 a1_2 _ _ l1_3 false _ ?side1 ?side2 A8.out).mono ?_); (case side1 => repeat (first | exact (Kd.C_below HR1_3.out HB.out) | (with_reducible refine Kd.C_alloc ?_ _) | (with_reducible refine Kd.C_drewN ?_ _) | (with_reducible refine Kd.C_drew ?_))); (case side2 => exact HC1_3.out); rintro e w23 ⟨rfl, hb⟩; replace BKz1 := mk (blk_below (g := gbz1) (o := .cells #[.int .i64 a0_0, .int .i64 a0_1, .int .i64 a0_2, .slice A0_3 l0_3.length c0_3] 27 (0, 0)) (by exact BKz1.out) hb); replace BKz0 := mk (blk_below (g := gbz0) (o := .cells #[.int .i64 a1_0, .int .i64 a1_1, .int .i64 a1_2, .slice A1_3 l1_3.length c1_3] 27 (0, 0)) (by exact BKz0.out) hb); replace HB := mk (below_step (by repeat (first | (with_reducible first | exact HB.out | apply below_alloc | apply pw_below_drewN | apply below_drew1 | refine below_set ?_ GEz0.out | refine below_set ?_ GEz1.out) | exact HB.out)) hb); (try clear hb); (try clear hb2); (try clear hk); (try clear hi))); try go_wp2_with (first | (go_at_call 83; (with_reducible refine (impl_isImage.calls a0_0 a0_1 a0_2 _ _ l0_3 true _ ?side1 ?side2 A6.out).mono ?_); (case side1 => repeat (first | exact (Kd.C_below HR0_3.out HB.out) | (with_reducible refine Kd.C_alloc ?_ _) | (with_reducible refine Kd.C_drewN ?_ _) | (with_reducible refine Kd.C_drew ?_))); (case side2 => exact HC0_3.out); rintro e w21 ⟨rfl, hb⟩; replace BKz1 := mk (blk_below (g := gbz1) (o := .cells #[.int .i64 a0_0, .int .i64 a0_1, .int .i64 a0_2, .slice A0_3 l0_3.length c0_3] 27 (0, 0)) (by exact BKz1.out) hb); replace BKz0 := mk (blk_below (g := gbz0) (o := .cells #[.int .i64 a1_0, .int .i64 a1_1, .int .i64 a1_2, .slice A1_3 l1_3.length c1_3] 27 (0, 0)) (by exact BKz0.out) hb); replace HB := mk (below_step (by repeat (first | (with_reducible first | exact HB.out | apply below_alloc | apply pw_below_drewN | apply below_drew1 | refine below_set ?_ GEz0.out | refine below_set ?_ GEz1.out) | exact HB.out)) hb); (try clear hb); (try clear hb2); (try clear hk); (try clear hi); obtain ⟨hcz22_0, hcz22_1, hcz22_2, hcz22_3, hfz22_0, hfz22_1, hfz22_2, -⟩ := c4 BKz0.out; have hfz22_3 := blk_frozen BKz0.out 3) | (go_at_call 83; (with_reducible refine (impl_isImage.calls a1_0 a1_1 a1_2 _ _ l1_3 false _ ?side1 ?side2 A8.out).mono ?_); (case side1 => repeat (first | exact (Kd.C_below HR1_3.out HB.out) | (with_reducible refine Kd.C_alloc ?_ _) | (with_reducible refine Kd.C_drewN ?_ _) | (with_reducible refine Kd.C_drew ?_))); (case side2 => exact HC1_3.out); rintro e w23 ⟨rfl, hb⟩; replace BKz1 := mk (blk_below (g := gbz1) (o := .cells #[.int .i64 a0_0, .int .i64 a0_1, .int .i64 a0_2, .slice A0_3 l0_3.length c0_3] 27 (0, 0)) (by exact BKz1.out) hb); replace BKz0 := mk (blk_below (g := gbz0) (o := .cells #[.int .i64 a1_0, .int .i64 a1_1, .int .i64 a1_2, .slice A1_3 l1_3.length c1_3] 27 (0, 0)) (by exact BKz0.out) hb); replace HB := mk (below_step (by repeat (first | (with_reducible first | exact HB.out | apply below_alloc | apply pw_below_drewN | apply below_drew1 | refine below_set ?_ GEz0.out | refine below_set ?_ GEz1.out) | exact HB.out)) hb); (try clear hb); (try clear hb2); (try clear hk); (try clear hi))))
   go_meet
   case rel => exact ⟨_, (true), (by rfl), H', ⟨by omega⟩, BKz1, BKz0, HB⟩
  replace c7 := Bool.eq_false_iff.mpr c7
  subst c7
  have H1 : (impl_GapOf.j0 k true a0_0 a0_1 a0_2 l0_3 a1_0 a1_1 a1_2 l1_3) = some r := by rw [if_neg (show ¬ (false = true) by decide)] at H; exact H
  clear H
  have H := H1
  clear H1
  have H' := mk H
  clear H
  obtain ⟨hcz25_0, hcz25_1, hcz25_2, hcz25_3, -⟩ := c4 BKz1.out
  go_wp2_with (first | (go_at_call 83; (with_reducible refine (impl_isImage.calls a0_0 a0_1 a0_2 _ _ l0_3 false _ ?side1 ?side2 A6.out).mono ?_); (case side1 => repeat (exact (Kd.C_below HR0_3.out HB.out))); (case side2 => exact HC0_3.out); rintro e w26 ⟨rfl, hb⟩; replace BKz1 := mk (blk_below BKz1.out hb); replace BKz0 := mk (blk_below BKz0.out hb); replace HB := mk (below_step HB.out hb); (try clear hb)))
  repeat (go_quiet (first | (go_at_call 83; (with_reducible refine (impl_isImage.calls a0_0 a0_1 a0_2 _ _ l0_3 false _ ?side1 ?side2 A6.out).mono ?_); (case side1 => repeat (first | exact (Kd.C_below HR0_3.out HB.out) | (with_reducible refine Kd.C_alloc ?_ _) | (with_reducible refine Kd.C_drewN ?_ _) | (with_reducible refine Kd.C_drew ?_))); (case side2 => exact HC0_3.out); rintro e w26 ⟨rfl, hb⟩; replace BKz1 := mk (blk_below (g := gbz1) (o := .cells #[.int .i64 a0_0, .int .i64 a0_1, .int .i64 a0_2, .slice A0_3 l0_3.length c0_3] 27 (0, 0)) (by exact BKz1.out) hb); replace BKz0 := mk (blk_below (g := gbz0) (o := .cells #[.int .i64 a1_0, .int .i64 a1_1, .int .i64 a1_2, .slice A1_3 l1_3.length c1_3] 27 (0, 0)) (by exact BKz0.out) hb); replace HB := mk (below_step (by repeat (first | (with_reducible first | exact HB.out | apply below_alloc | apply pw_below_drewN | apply below_drew1 | refine below_set ?_ GEz0.out | refine below_set ?_ GEz1.out) | exact HB.out)) hb))); try go_wp2_with (first | (go_at_call 83; (with_reducible refine (impl_isImage.calls a0_0 a0_1 a0_2 _ _ l0_3 false _ ?side1 ?side2 A6.out).mono ?_); (case side1 => repeat (first | exact (Kd.C_below HR0_3.out HB.out) | (with_reducible refine Kd.C_alloc ?_ _) | (with_reducible refine Kd.C_drewN ?_ _) | (with_reducible refine Kd.C_drew ?_))); (case side2 => exact HC0_3.out); rintro e w26 ⟨rfl, hb⟩; replace BKz1 := mk (blk_below (g := gbz1) (o := .cells #[.int .i64 a0_0, .int .i64 a0_1, .int .i64 a0_2, .slice A0_3 l0_3.length c0_3] 27 (0, 0)) (by exact BKz1.out) hb); replace BKz0 := mk (blk_below (g := gbz0) (o := .cells #[.int .i64 a1_0, .int .i64 a1_1, .int .i64 a1_2, .slice A1_3 l1_3.length c1_3] 27 (0, 0)) (by exact BKz0.out) hb); replace HB := mk (below_step (by repeat (first | (with_reducible first | exact HB.out | apply below_alloc | apply pw_below_drewN | apply below_drew1 | refine below_set ?_ GEz0.out | refine below_set ?_ GEz1.out) | exact HB.out)) hb))))
  go_meet
  case rel => exact ⟨_, (true), (by rfl), H', ⟨by omega⟩, BKz1, BKz0, HB⟩
 case rest =>
  clear HC3
  obtain ⟨kq, x21_2, rfl, HA, HJ2, BKz1, BKz0, HB⟩ := hcut
  cases kq with
  | zero => exact absurd HA.out (by simp [impl_GapOf.j0])
  | succ kj2 =>
   have H := HA.out
   clear HA
   simp only [impl_GapOf.j0] at H
   by_cases c27 : x21_2 = true
   ·subst c27
    have H1 : (some (-1)) = some r := by rw [if_pos rfl] at H; exact H
    clear H
    have H := H1
    clear H1
    obtain rfl := Option.some.inj H
    go_wp2
    repeat (go_quiet (fail); try go_wp2)
    go_ret
    exact ⟨by rfl, by exact HB.out⟩
   replace c27 := Bool.eq_false_iff.mpr c27
   subst c27
   have H1 : (impl_GapOf.l0 kj2 0 l0_3 (l0_3.length : Int) 0 a1_0 a1_1 a1_2 l1_3) = some r := by rw [if_neg (show ¬ (false = true) by decide)] at H; exact H
   clear H
   have H := H1
   clear H1
   have H' := mk H
   clear H
   obtain ⟨hcz29_0, hcz29_1, hcz29_2, hcz29_3, hfz29_0, hfz29_1, hfz29_2, hfz29_3⟩ := c4 BKz1.out
   go_wp2
   repeat (go_quiet (fail); try go_wp2)
   go_loopg [5, 25] kj2 (fun kq v5 v25 w' => ∃ (x5_2 : Int) (x25_2 : Int), v5 = .int .i64 x5_2 ∧ v25 = .int .i64 x25_2 ∧ Aside0 (impl_GapOf.l0 kq x5_2 l0_3 (l0_3.length : Int) x25_2 a1_0 a1_1 a1_2 l1_3 = some r) ∧ Aside0 (kq ≤ kj2) ∧ Aside0 (w'.heap[gbz1]? = some (.cells #[.int .i64 a0_0, .int .i64 a0_1, .int .i64 a0_2, (.slice A0_3 l0_3.length c0_3)] 27 (0, 0))) ∧ Aside0 (w'.heap[gbz0]? = some (.cells #[.int .i64 a1_0, .int .i64 a1_1, .int .i64 a1_2, (.slice A1_3 l1_3.length c1_3)] 27 (0, 0))) ∧ Aside0 (Below w.heap.size w w'))
   case atStart => exact ⟨(0), (0), (by rfl), (by rfl), H', ⟨Nat.le_refl _⟩, BKz1, BKz0, HB⟩
   case round =>
    clear H'
    obtain ⟨x5_2, x25_2, rfl, rfl, HA, HK2, BKz1, BKz0, HB⟩ := hrel
    cases gk with
    | zero => exact absurd HA.out (by simp [impl_GapOf.l0])
    | succ k2 =>
     have H := HA.out
     clear HA
     simp only [impl_GapOf.l0] at H
     by_cases c30 : x25_2 < (l0_3.length : Int)
     ·rw [if_pos c30] at H
      have c30b0 : decide (x25_2 < (l0_3.length : Int)) = true := decide_eq_true c30
      clear c30
      by_cases c31 : 0 ≤ x25_2
      ·rw [if_pos c31] at H
       have c31b0 : decide (0 ≤ x25_2) = true := decide_eq_true c31
       clear c31
       by_cases c32 : x25_2 < (l0_3.length : Int)
       ·rw [if_pos c32] at H
        have c32b0 : decide (x25_2 < (l0_3.length : Int)) = true := decide_eq_true c32
        clear c32
        by_cases c33 : x25_2 < (l1_3.length : Int)
        ·rw [if_pos c33] at H
         have c33b0 : decide (x25_2 < (l1_3.length : Int)) = true := decide_eq_true c33
         clear c33
         have H' := mk H
         clear H
         have p24006 : 0 ≤ (x25_2 : Int) := of_decide_eq_true (by (with_reducible assumption))
         have q24006 : x25_2 < (l0_3.length : Int) := of_decide_eq_true (by (with_reducible assumption))
         obtain ⟨ad24006, e24006, hx24006_0⟩ := Kd.at_int HR0_3.out x25_2 p24006 q24006
         cases e24006
         replace hx24006_0 := bc HB.out hx24006_0
         replace p24006 := eq_true p24006
         replace q24006 := eq_true q24006
         have hcz35_3 : wr.cell? ⟨gbz0, 3, none⟩ = some (.slice A1_3 l1_3.length c1_3) := (blk_cell BKz0.out 3).trans rfl
         have p24007 : 0 ≤ (x25_2 : Int) := of_decide_eq_true (by (with_reducible assumption))
         have q24007 : x25_2 < (l1_3.length : Int) := of_decide_eq_true (by (with_reducible assumption))
         obtain ⟨ad24007, e24007, hx24007_0⟩ := Kd.at_int HR1_3.out x25_2 p24007 q24007
         cases e24007
         replace hx24007_0 := bc HB.out hx24007_0
         replace p24007 := eq_true p24007
         replace q24007 := eq_true q24007
         have p24008 : 0 ≤ (x25_2 : Int) := of_decide_eq_true (by (with_reducible assumption))
         have q24008 : x25_2 < (l1_3.length : Int) := of_decide_eq_true (by (with_reducible assumption))
         obtain ⟨ad24008, e24008, hx24008_0⟩ := Kd.at_int HR1_3.out x25_2 p24008 q24008
         obtain rfl : ad24007 = ad24008 := (by injection e24008)
         replace hx24008_0 := bc HB.out hx24008_0
         replace p24008 := eq_true p24008
         replace q24008 := eq_true q24008
         go_wp2
         repeat (go_quiet (fail); try go_wp2)
         go_roundg k2
         case measure => have := HJ2.out; have := HK2.out; omega
         case rel => exact ⟨(wrap64 (x5_2 + (wrap64 ((wrap64 ((rd l0_3 x25_2) - (rd l1_3 x25_2))) * (wrap64 ((rd l0_3 x25_2) - (rd l1_3 x25_2))))))), (wrap64 (x25_2 + 1)), (by rfl), (by rfl), H', ⟨by have := HJ2.out; have := HK2.out; omega⟩, ⟨by (with_reducible repeat (refine blk_drewN ?_ _)); exact BKz1.out⟩, ⟨by (with_reducible repeat (refine blk_drewN ?_ _)); exact BKz0.out⟩, ⟨by repeat (with_reducible first | exact HB.out | apply pw_below_drewN)⟩⟩
        rw [if_neg c33] at H
        exact absurd H (by simp)
       rw [if_neg c32] at H
       exact absurd H (by simp)
      rw [if_neg c31] at H
      exact absurd H (by simp)
     rw [if_neg c30] at H
     have c30b0 : decide (x25_2 < (l0_3.length : Int)) = false := decide_eq_false c30
     clear c30
     obtain rfl := Option.some.inj H
     go_wp2
     repeat (go_quiet (fail); try go_wp2)
     go_ret
     exact ⟨by rfl, by exact HB.out⟩


def laws_equalInts.l0 : Nat → List Int → List Int → Int → Option (Bool)
 | 0, _, _, _ => none
 | k + 1, x0, x1, x5 => if x5 < (x0.length : Int) then (if 0 ≤ x5 then (if x5 < (x1.length : Int) then (if (rd x0 x5) = (rd x1 x5) then (laws_equalInts.l0 k x0 x1 (wrap64 (x5 + 1))) else (some false)) else none) else none) else (some true)
def laws_equalInts.f (k : Nat) (l0 : List Int) (l1 : List Int) : Option Bool := if (l0.length : Int) = (l1.length : Int) then (laws_equalInts.l0 k l0 l1 0) else (some false)
theorem laws_equalInts.calls (k : Nat) (A0 : Option Addr) (c0 : Nat) (l0 : List Int) (A1 : Option Addr) (c1 : Nat) (l1 : List Int) (r : Bool) (w : World) (hr0 : Kd.C (Kd.int .i64) w A0 l0.length l0) (hc0 : l0.length ≤ c0) (hr1 : Kd.C (Kd.int .i64) w A1 l1.length l1) (hc1 : l1.length ≤ c1) (h : laws_equalInts.f k l0 l1 = some r) :
  Calls Try.prog 50 #[.slice A0 l0.length c0, .slice A1 l1.length c1] w fun e w' => e = .returned (.bool r) ∧ Drawn0 w w' := by
 have HR0 := Aside0.mk hr0
 have HC0 := Aside0.mk hc0
 clear hr0 hc0
 have HR1 := Aside0.mk hr1
 have HC1 := Aside0.mk hc1
 clear hr1 hc1
 have H : (if (l0.length : Int) = (l1.length : Int) then (laws_equalInts.l0 k l0 l1 0) else (some false)) = some r := h
 clear h
 by_cases c3 : (l0.length : Int) = (l1.length : Int)
 ·rw [if_pos c3] at H
  have c3b0 : ((l0.length : Int) == (l1.length : Int)) = true := beq_iff_eq.mpr c3
  have c3b1 : ((l0.length : Int) != (l1.length : Int)) = false := bne_eq_false_iff_eq.mpr c3
  have c3b2 : (l0.length == l1.length) = true := by (simp at c3 ⊢; omega)
  clear c3
  have H' := Aside0.mk H
  clear H
  go_enter Try.func50, Try.ntmps50
  go_wp2
  repeat (go_quiet (fail); try go_wp2)
  go_loopg [5] k (fun kq v5 w' => ∃ (x5_1 : Int), v5 = .int .i64 x5_1 ∧ Aside0 (laws_equalInts.l0 kq l0 l1 x5_1 = some r) ∧ Aside0 (kq ≤ k) ∧ Drawn0 w w')
  case atStart => exact ⟨(0), (by rfl), H', ⟨Nat.le_refl _⟩, by repeat (exact Drawn0.refl _)⟩
  case round =>
   clear H'
   obtain ⟨x5_1, rfl, HA, HK1, ⟨m1, rfl⟩⟩ := hrel
   cases gk with
   | zero => exact absurd HA.out (by simp [laws_equalInts.l0])
   | succ k1 =>
    have H := HA.out
    clear HA
    simp only [laws_equalInts.l0] at H
    by_cases c4 : x5_1 < (l0.length : Int)
    ·rw [if_pos c4] at H
     have c4b0 : decide (x5_1 < (l0.length : Int)) = true := decide_eq_true c4
     clear c4
     by_cases c5 : 0 ≤ x5_1
     ·rw [if_pos c5] at H
      have c5b0 : decide (0 ≤ x5_1) = true := decide_eq_true c5
      clear c5
      by_cases c6 : x5_1 < (l1.length : Int)
      ·rw [if_pos c6] at H
       have c6b0 : decide (x5_1 < (l1.length : Int)) = true := decide_eq_true c6
       clear c6
       by_cases c7 : (rd l0 x5_1) = (rd l1 x5_1)
       ·rw [if_pos c7] at H
        have c7b0 : ((rd l0 x5_1) == (rd l1 x5_1)) = true := beq_iff_eq.mpr c7
        have c7b1 : ((rd l0 x5_1) != (rd l1 x5_1)) = false := bne_eq_false_iff_eq.mpr c7
        clear c7
        have H' := Aside0.mk H
        clear H
        have p51001 : 0 ≤ (x5_1 : Int) := of_decide_eq_true (by (with_reducible assumption))
        have q51001 : x5_1 < (l0.length : Int) := of_decide_eq_true (by (with_reducible assumption))
        obtain ⟨ad51001, e51001, hx51001_0⟩ := Kd.at_int HR0.out x5_1 p51001 q51001
        cases e51001
        replace p51001 := eq_true p51001
        replace q51001 := eq_true q51001
        have p51002 : 0 ≤ (x5_1 : Int) := of_decide_eq_true (by (with_reducible assumption))
        have q51002 : x5_1 < (l1.length : Int) := of_decide_eq_true (by (with_reducible assumption))
        obtain ⟨ad51002, e51002, hx51002_0⟩ := Kd.at_int HR1.out x5_1 p51002 q51002
        cases e51002
        replace p51002 := eq_true p51002
        replace q51002 := eq_true q51002
        go_wp2
        repeat (go_quiet (fail); try go_wp2)
        go_roundg k1
        case measure => have := HK1.out; omega
        case rel => exact ⟨(wrap64 (x5_1 + 1)), (by rfl), H', ⟨by have := HK1.out; omega⟩, by repeat (first | exact Drawn0.refl _ | apply Drawn0.step)⟩
       rw [if_neg c7] at H
       have c7b0 : ((rd l0 x5_1) == (rd l1 x5_1)) = false := beq_eq_false_iff_ne.mpr c7
       have c7b1 : ((rd l0 x5_1) != (rd l1 x5_1)) = true := bne_iff_ne.mpr c7
       obtain rfl := Option.some.inj H
       have p51001 : 0 ≤ (x5_1 : Int) := of_decide_eq_true (by (with_reducible assumption))
       have q51001 : x5_1 < (l0.length : Int) := of_decide_eq_true (by (with_reducible assumption))
       obtain ⟨ad51001, e51001, hx51001_0⟩ := Kd.at_int HR0.out x5_1 p51001 q51001
       cases e51001
       replace p51001 := eq_true p51001
       replace q51001 := eq_true q51001
       have p51002 : 0 ≤ (x5_1 : Int) := of_decide_eq_true (by (with_reducible assumption))
       have q51002 : x5_1 < (l1.length : Int) := of_decide_eq_true (by (with_reducible assumption))
       obtain ⟨ad51002, e51002, hx51002_0⟩ := Kd.at_int HR1.out x5_1 p51002 q51002
       cases e51002
       replace p51002 := eq_true p51002
       replace q51002 := eq_true q51002
       go_wp2
       repeat (go_quiet (fail); try go_wp2)
       go_ret
       exact ⟨by rfl, by repeat (first | exact Drawn0.refl _ | apply Drawn0.step)⟩
      rw [if_neg c6] at H
      exact absurd H (by simp)
     rw [if_neg c5] at H
     exact absurd H (by simp)
    rw [if_neg c4] at H
    have c4b0 : decide (x5_1 < (l0.length : Int)) = false := decide_eq_false c4
    clear c4
    obtain rfl := Option.some.inj H
    go_wp2
    repeat (go_quiet (fail); try go_wp2)
    go_ret
    exact ⟨by rfl, by repeat (first | exact Drawn0.refl _ | apply Drawn0.step)⟩
 rw [if_neg c3] at H
 have c3b0 : ((l0.length : Int) == (l1.length : Int)) = false := beq_eq_false_iff_ne.mpr c3
 have c3b1 : ((l0.length : Int) != (l1.length : Int)) = true := bne_iff_ne.mpr c3
 have c3b2 : (l0.length == l1.length) = false := by (simp at c3 ⊢; omega)
 obtain rfl := Option.some.inj H
 go_enter Try.func50, Try.ntmps50
 go_wp2
 repeat (go_quiet (fail); try go_wp2)
 go_ret
 exact ⟨by rfl, by repeat (exact Drawn0.refl _)⟩


def laws_equalImage.f (k : Nat) (a0_0 : Int) (a0_1 : Int) (a0_2 : Int) (l0_3 : List Int) (a1_0 : Int) (a1_1 : Int) (a1_2 : Int) (l1_3 : List Int) : Option Bool := if a0_0 = a1_0 then (if a0_1 = a1_1 then (if a0_2 = a1_2 then ((laws_equalInts.f k l0_3 l1_3).bind fun t27003 => (some t27003)) else (some false)) else (some false)) else (some false)
theorem laws_equalImage.calls (k : Nat) (a0_0 : Int) (a0_1 : Int) (a0_2 : Int) (A0_3 : Option Addr) (c0_3 : Nat) (l0_3 : List Int) (a1_0 : Int) (a1_1 : Int) (a1_2 : Int) (A1_3 : Option Addr) (c1_3 : Nat) (l1_3 : List Int) (r : Bool) (w : World) (hr0_3 : Kd.C (Kd.int .i64) w A0_3 l0_3.length l0_3) (hc0_3 : l0_3.length ≤ c0_3) (hr1_3 : Kd.C (Kd.int .i64) w A1_3 l1_3.length l1_3) (hc1_3 : l1_3.length ≤ c1_3) (h : laws_equalImage.f k a0_0 a0_1 a0_2 l0_3 a1_0 a1_1 a1_2 l1_3 = some r) :
  Calls Try.prog 26 #[.agg #[.int .i64 a0_0, .int .i64 a0_1, .int .i64 a0_2, .slice A0_3 l0_3.length c0_3], .agg #[.int .i64 a1_0, .int .i64 a1_1, .int .i64 a1_2, .slice A1_3 l1_3.length c1_3]] w fun e w' => e = .returned (.bool r) ∧ Below w.heap.size w w' := by
 have hu27 := Try.underlying27
 have HR0_3 := mk hr0_3
 have HC0_3 := mk hc0_3
 clear hr0_3 hc0_3
 have HR1_3 := mk hr1_3
 have HC1_3 := mk hc1_3
 clear hr1_3 hc1_3
 have HB := mk (Below.refl w.heap.size w)
 have H : (if a0_0 = a1_0 then (if a0_1 = a1_1 then (if a0_2 = a1_2 then ((laws_equalInts.f k l0_3 l1_3).bind fun t27003 => (some t27003)) else (some false)) else (some false)) else (some false)) = some r := h
 clear h
 by_cases c3 : a0_0 = a1_0
 ·rw [if_pos c3] at H
  have c3b0 : (a0_0 == a1_0) = true := beq_iff_eq.mpr c3
  have c3b1 : (a0_0 != a1_0) = false := bne_eq_false_iff_eq.mpr c3
  clear c3
  by_cases c4 : a0_1 = a1_1
  ·rw [if_pos c4] at H
   have c4b0 : (a0_1 == a1_1) = true := beq_iff_eq.mpr c4
   have c4b1 : (a0_1 != a1_1) = false := bne_eq_false_iff_eq.mpr c4
   clear c4
   by_cases c5 : a0_2 = a1_2
   ·rw [if_pos c5] at H
    have c5b0 : (a0_2 == a1_2) = true := beq_iff_eq.mpr c5
    have c5b1 : (a0_2 != a1_2) = false := bne_eq_false_iff_eq.mpr c5
    clear c5
    replace H := Option.bind_eq_some_iff.mp H
    obtain ⟨t27003, A60, H⟩ := H
    replace H : (some t27003) = some r := H
    have A6 := mk A60
    clear A60
    obtain rfl := Option.some.inj H
    go_enter Try.func26, Try.ntmps26
    go_wp2_with (first | ((with_reducible refine gate_dst (N := 2) rfl ?_); refine box_event ?hg (N := 2) ?hd (cs := #[.int .i64 a0_0, .int .i64 a0_1, .int .i64 a0_2, .slice A0_3 l0_3.length c0_3]) (t := 27) ?hr ?_; (case hd => rfl); (case hg => rfl); (case hr => (go_simp; done)); intro gb27001 hg w7 hbox hb; have n0_ := mk (below_step HB.out hb); have n1_ := mk (hbox); have n2_ := mk ((by rw [hg]; exact (below_size HB.out) : w.heap.size ≤ gb27001)); have n3_ := mk ((by rw [hg]; exact (below_size HB.out) : w.heap.size ≤ gb27001)); clear HB; have HB := n0_; have BK27001 := n1_; have GW27001 := n2_; have GE27001 := n3_; clear n0_ n1_ n2_ n3_; clear hb hbox hg) | ((with_reducible refine gate_dst (N := 3) rfl ?_); refine box_event ?hg (N := 3) ?hd (cs := #[.int .i64 a1_0, .int .i64 a1_1, .int .i64 a1_2, .slice A1_3 l1_3.length c1_3]) (t := 27) ?hr ?_; (case hd => rfl); (case hg => rfl); (case hr => (go_simp; done)); intro gb27002 hg w8 hbox hb; have n0_ := mk (blk_below BK27001.out hb); have n1_ := mk (below_step HB.out hb); have n2_ := mk (hbox); have n3_ := mk ((by rw [hg]; exact (below_size HB.out) : w.heap.size ≤ gb27002)); have n4_ := mk ((by rw [hg]; exact (below_size HB.out) : w.heap.size ≤ gb27002)); have n5_ := mk ((by rw [hg]; exact Nat.ne_of_lt (blk_lt BK27001.out) : gb27001 ≠ gb27002)); have n6_ := mk ((by rw [hg]; exact Nat.ne_of_gt (blk_lt BK27001.out) : gb27002 ≠ gb27001)); clear BK27001; clear HB; have BK27001 := n0_; have HB := n1_; have BK27002 := n2_; have GW27002 := n3_; have GE27002 := n4_; have NB27001_27002 := n5_; have NB27002_27001 := n6_; clear n0_ n1_ n2_ n3_ n4_ n5_ n6_; clear hb hbox hg; have hnb9 := NB27001_27002.out; have hnc9 := NB27002_27001.out; have hcz10_0 : w8.cell? ⟨gb27001, 0, none⟩ = some (.int .i64 a0_0) := (blk_cell BK27001.out 0).trans rfl; have hcz10_1 : w8.cell? ⟨gb27001, 1, none⟩ = some (.int .i64 a0_1) := (blk_cell BK27001.out 1).trans rfl; have hcz10_2 : w8.cell? ⟨gb27001, 2, none⟩ = some (.int .i64 a0_2) := (blk_cell BK27001.out 2).trans rfl; have hcz10_3 : w8.cell? ⟨gb27001, 3, none⟩ = some (.slice A0_3 l0_3.length c0_3) := (blk_cell BK27001.out 3).trans rfl; have hfz10_0 := blk_frozen BK27001.out 0; have hfz10_1 := blk_frozen BK27001.out 1; have hfz10_2 := blk_frozen BK27001.out 2; have hfz10_3 := blk_frozen BK27001.out 3; have hcz11_0 : w8.cell? ⟨gb27002, 0, none⟩ = some (.int .i64 a1_0) := (blk_cell BK27002.out 0).trans rfl; have hcz11_1 : w8.cell? ⟨gb27002, 1, none⟩ = some (.int .i64 a1_1) := (blk_cell BK27002.out 1).trans rfl; have hcz11_2 : w8.cell? ⟨gb27002, 2, none⟩ = some (.int .i64 a1_2) := (blk_cell BK27002.out 2).trans rfl; have hcz11_3 : w8.cell? ⟨gb27002, 3, none⟩ = some (.slice A1_3 l1_3.length c1_3) := (blk_cell BK27002.out 3).trans rfl; have hfz11_0 := blk_frozen BK27002.out 0; have hfz11_1 := blk_frozen BK27002.out 1; have hfz11_2 := blk_frozen BK27002.out 2; have hfz11_3 := blk_frozen BK27002.out 3) | (go_at_call 50; (with_reducible refine (laws_equalInts.calls k _ _ l0_3 _ _ l1_3 t27003 _ ?side1 ?side2 ?side3 ?side4 A6.out).mono ?_); (case side1 => repeat (exact (Kd.C_below HR0_3.out HB.out))); (case side2 => exact HC0_3.out); (case side3 => repeat (exact (Kd.C_below HR1_3.out HB.out))); (case side4 => exact HC1_3.out); rintro e w' ⟨rfl, ⟨nd, rfl⟩⟩))
    go_ret
    exact ⟨by rfl, by repeat (with_reducible first | exact HB.out | apply pw_below_drewN)⟩
   ·rw [if_neg c5] at H
    have c5b0 : (a0_2 == a1_2) = false := beq_eq_false_iff_ne.mpr c5
    have c5b1 : (a0_2 != a1_2) = true := bne_iff_ne.mpr c5
    obtain rfl := Option.some.inj H
    go_enter Try.func26, Try.ntmps26
    go_wp2_with (first | ((with_reducible refine gate_dst (N := 2) rfl ?_); refine box_event ?hg (N := 2) ?hd (cs := #[.int .i64 a0_0, .int .i64 a0_1, .int .i64 a0_2, .slice A0_3 l0_3.length c0_3]) (t := 27) ?hr ?_; (case hd => rfl); (case hg => rfl); (case hr => (go_simp; done)); intro gb27001 hg w12 hbox hb; have n0_ := mk (below_step HB.out hb); have n1_ := mk (hbox); have n2_ := mk ((by rw [hg]; exact (below_size HB.out) : w.heap.size ≤ gb27001)); have n3_ := mk ((by rw [hg]; exact (below_size HB.out) : w.heap.size ≤ gb27001)); clear HB; have HB := n0_; have BK27001 := n1_; have GW27001 := n2_; have GE27001 := n3_; clear n0_ n1_ n2_ n3_; clear hb hbox hg) | ((with_reducible refine gate_dst (N := 3) rfl ?_); refine box_event ?hg (N := 3) ?hd (cs := #[.int .i64 a1_0, .int .i64 a1_1, .int .i64 a1_2, .slice A1_3 l1_3.length c1_3]) (t := 27) ?hr ?_; (case hd => rfl); (case hg => rfl); (case hr => (go_simp; done)); intro gb27002 hg w13 hbox hb; have n0_ := mk (blk_below BK27001.out hb); have n1_ := mk (below_step HB.out hb); have n2_ := mk (hbox); have n3_ := mk ((by rw [hg]; exact (below_size HB.out) : w.heap.size ≤ gb27002)); have n4_ := mk ((by rw [hg]; exact (below_size HB.out) : w.heap.size ≤ gb27002)); have n5_ := mk ((by rw [hg]; exact Nat.ne_of_lt (blk_lt BK27001.out) : gb27001 ≠ gb27002)); have n6_ := mk ((by rw [hg]; exact Nat.ne_of_gt (blk_lt BK27001.out) : gb27002 ≠ gb27001)); clear BK27001; clear HB; have BK27001 := n0_; have HB := n1_; have BK27002 := n2_; have GW27002 := n3_; have GE27002 := n4_; have NB27001_27002 := n5_; have NB27002_27001 := n6_; clear n0_ n1_ n2_ n3_ n4_ n5_ n6_; clear hb hbox hg; have hnb14 := NB27001_27002.out; have hnc14 := NB27002_27001.out; have hcz15_0 : w13.cell? ⟨gb27001, 0, none⟩ = some (.int .i64 a0_0) := (blk_cell BK27001.out 0).trans rfl; have hcz15_1 : w13.cell? ⟨gb27001, 1, none⟩ = some (.int .i64 a0_1) := (blk_cell BK27001.out 1).trans rfl; have hcz15_2 : w13.cell? ⟨gb27001, 2, none⟩ = some (.int .i64 a0_2) := (blk_cell BK27001.out 2).trans rfl; have hcz15_3 : w13.cell? ⟨gb27001, 3, none⟩ = some (.slice A0_3 l0_3.length c0_3) := (blk_cell BK27001.out 3).trans rfl; have hfz15_0 := blk_frozen BK27001.out 0; have hfz15_1 := blk_frozen BK27001.out 1; have hfz15_2 := blk_frozen BK27001.out 2; have hfz15_3 := blk_frozen BK27001.out 3; have hcz16_0 : w13.cell? ⟨gb27002, 0, none⟩ = some (.int .i64 a1_0) := (blk_cell BK27002.out 0).trans rfl; have hcz16_1 : w13.cell? ⟨gb27002, 1, none⟩ = some (.int .i64 a1_1) := (blk_cell BK27002.out 1).trans rfl; have hcz16_2 : w13.cell? ⟨gb27002, 2, none⟩ = some (.int .i64 a1_2) := (blk_cell BK27002.out 2).trans rfl; have hcz16_3 : w13.cell? ⟨gb27002, 3, none⟩ = some (.slice A1_3 l1_3.length c1_3) := (blk_cell BK27002.out 3).trans rfl; have hfz16_0 := blk_frozen BK27002.out 0; have hfz16_1 := blk_frozen BK27002.out 1; have hfz16_2 := blk_frozen BK27002.out 2; have hfz16_3 := blk_frozen BK27002.out 3))
    go_ret
    exact ⟨by rfl, by exact HB.out⟩
  ·rw [if_neg c4] at H
   have c4b0 : (a0_1 == a1_1) = false := beq_eq_false_iff_ne.mpr c4
   have c4b1 : (a0_1 != a1_1) = true := bne_iff_ne.mpr c4
   obtain rfl := Option.some.inj H
   go_enter Try.func26, Try.ntmps26
   go_wp2_with (first | ((with_reducible refine gate_dst (N := 2) rfl ?_); refine box_event ?hg (N := 2) ?hd (cs := #[.int .i64 a0_0, .int .i64 a0_1, .int .i64 a0_2, .slice A0_3 l0_3.length c0_3]) (t := 27) ?hr ?_; (case hd => rfl); (case hg => rfl); (case hr => (go_simp; done)); intro gb27001 hg w17 hbox hb; have n0_ := mk (below_step HB.out hb); have n1_ := mk (hbox); have n2_ := mk ((by rw [hg]; exact (below_size HB.out) : w.heap.size ≤ gb27001)); have n3_ := mk ((by rw [hg]; exact (below_size HB.out) : w.heap.size ≤ gb27001)); clear HB; have HB := n0_; have BK27001 := n1_; have GW27001 := n2_; have GE27001 := n3_; clear n0_ n1_ n2_ n3_; clear hb hbox hg) | ((with_reducible refine gate_dst (N := 3) rfl ?_); refine box_event ?hg (N := 3) ?hd (cs := #[.int .i64 a1_0, .int .i64 a1_1, .int .i64 a1_2, .slice A1_3 l1_3.length c1_3]) (t := 27) ?hr ?_; (case hd => rfl); (case hg => rfl); (case hr => (go_simp; done)); intro gb27002 hg w18 hbox hb; have n0_ := mk (blk_below BK27001.out hb); have n1_ := mk (below_step HB.out hb); have n2_ := mk (hbox); have n3_ := mk ((by rw [hg]; exact (below_size HB.out) : w.heap.size ≤ gb27002)); have n4_ := mk ((by rw [hg]; exact (below_size HB.out) : w.heap.size ≤ gb27002)); have n5_ := mk ((by rw [hg]; exact Nat.ne_of_lt (blk_lt BK27001.out) : gb27001 ≠ gb27002)); have n6_ := mk ((by rw [hg]; exact Nat.ne_of_gt (blk_lt BK27001.out) : gb27002 ≠ gb27001)); clear BK27001; clear HB; have BK27001 := n0_; have HB := n1_; have BK27002 := n2_; have GW27002 := n3_; have GE27002 := n4_; have NB27001_27002 := n5_; have NB27002_27001 := n6_; clear n0_ n1_ n2_ n3_ n4_ n5_ n6_; clear hb hbox hg; have hnb19 := NB27001_27002.out; have hnc19 := NB27002_27001.out; have hcz20_0 : w18.cell? ⟨gb27001, 0, none⟩ = some (.int .i64 a0_0) := (blk_cell BK27001.out 0).trans rfl; have hcz20_1 : w18.cell? ⟨gb27001, 1, none⟩ = some (.int .i64 a0_1) := (blk_cell BK27001.out 1).trans rfl; have hcz20_2 : w18.cell? ⟨gb27001, 2, none⟩ = some (.int .i64 a0_2) := (blk_cell BK27001.out 2).trans rfl; have hcz20_3 : w18.cell? ⟨gb27001, 3, none⟩ = some (.slice A0_3 l0_3.length c0_3) := (blk_cell BK27001.out 3).trans rfl; have hfz20_0 := blk_frozen BK27001.out 0; have hfz20_1 := blk_frozen BK27001.out 1; have hfz20_2 := blk_frozen BK27001.out 2; have hfz20_3 := blk_frozen BK27001.out 3; have hcz21_0 : w18.cell? ⟨gb27002, 0, none⟩ = some (.int .i64 a1_0) := (blk_cell BK27002.out 0).trans rfl; have hcz21_1 : w18.cell? ⟨gb27002, 1, none⟩ = some (.int .i64 a1_1) := (blk_cell BK27002.out 1).trans rfl; have hcz21_2 : w18.cell? ⟨gb27002, 2, none⟩ = some (.int .i64 a1_2) := (blk_cell BK27002.out 2).trans rfl; have hcz21_3 : w18.cell? ⟨gb27002, 3, none⟩ = some (.slice A1_3 l1_3.length c1_3) := (blk_cell BK27002.out 3).trans rfl; have hfz21_0 := blk_frozen BK27002.out 0; have hfz21_1 := blk_frozen BK27002.out 1; have hfz21_2 := blk_frozen BK27002.out 2; have hfz21_3 := blk_frozen BK27002.out 3))
   go_ret
   exact ⟨by rfl, by exact HB.out⟩
 ·rw [if_neg c3] at H
  have c3b0 : (a0_0 == a1_0) = false := beq_eq_false_iff_ne.mpr c3
  have c3b1 : (a0_0 != a1_0) = true := bne_iff_ne.mpr c3
  obtain rfl := Option.some.inj H
  go_enter Try.func26, Try.ntmps26
  go_wp2_with (first | ((with_reducible refine gate_dst (N := 2) rfl ?_); refine box_event ?hg (N := 2) ?hd (cs := #[.int .i64 a0_0, .int .i64 a0_1, .int .i64 a0_2, .slice A0_3 l0_3.length c0_3]) (t := 27) ?hr ?_; (case hd => rfl); (case hg => rfl); (case hr => (go_simp; done)); intro gb27001 hg w22 hbox hb; have n0_ := mk (below_step HB.out hb); have n1_ := mk (hbox); have n2_ := mk ((by rw [hg]; exact (below_size HB.out) : w.heap.size ≤ gb27001)); have n3_ := mk ((by rw [hg]; exact (below_size HB.out) : w.heap.size ≤ gb27001)); clear HB; have HB := n0_; have BK27001 := n1_; have GW27001 := n2_; have GE27001 := n3_; clear n0_ n1_ n2_ n3_; clear hb hbox hg) | ((with_reducible refine gate_dst (N := 3) rfl ?_); refine box_event ?hg (N := 3) ?hd (cs := #[.int .i64 a1_0, .int .i64 a1_1, .int .i64 a1_2, .slice A1_3 l1_3.length c1_3]) (t := 27) ?hr ?_; (case hd => rfl); (case hg => rfl); (case hr => (go_simp; done)); intro gb27002 hg w23 hbox hb; have n0_ := mk (blk_below BK27001.out hb); have n1_ := mk (below_step HB.out hb); have n2_ := mk (hbox); have n3_ := mk ((by rw [hg]; exact (below_size HB.out) : w.heap.size ≤ gb27002)); have n4_ := mk ((by rw [hg]; exact (below_size HB.out) : w.heap.size ≤ gb27002)); have n5_ := mk ((by rw [hg]; exact Nat.ne_of_lt (blk_lt BK27001.out) : gb27001 ≠ gb27002)); have n6_ := mk ((by rw [hg]; exact Nat.ne_of_gt (blk_lt BK27001.out) : gb27002 ≠ gb27001)); clear BK27001; clear HB; have BK27001 := n0_; have HB := n1_; have BK27002 := n2_; have GW27002 := n3_; have GE27002 := n4_; have NB27001_27002 := n5_; have NB27002_27001 := n6_; clear n0_ n1_ n2_ n3_ n4_ n5_ n6_; clear hb hbox hg; have hnb24 := NB27001_27002.out; have hnc24 := NB27002_27001.out; have hcz25_0 : w23.cell? ⟨gb27001, 0, none⟩ = some (.int .i64 a0_0) := (blk_cell BK27001.out 0).trans rfl; have hcz25_1 : w23.cell? ⟨gb27001, 1, none⟩ = some (.int .i64 a0_1) := (blk_cell BK27001.out 1).trans rfl; have hcz25_2 : w23.cell? ⟨gb27001, 2, none⟩ = some (.int .i64 a0_2) := (blk_cell BK27001.out 2).trans rfl; have hcz25_3 : w23.cell? ⟨gb27001, 3, none⟩ = some (.slice A0_3 l0_3.length c0_3) := (blk_cell BK27001.out 3).trans rfl; have hfz25_0 := blk_frozen BK27001.out 0; have hfz25_1 := blk_frozen BK27001.out 1; have hfz25_2 := blk_frozen BK27001.out 2; have hfz25_3 := blk_frozen BK27001.out 3; have hcz26_0 : w23.cell? ⟨gb27002, 0, none⟩ = some (.int .i64 a1_0) := (blk_cell BK27002.out 0).trans rfl; have hcz26_1 : w23.cell? ⟨gb27002, 1, none⟩ = some (.int .i64 a1_1) := (blk_cell BK27002.out 1).trans rfl; have hcz26_2 : w23.cell? ⟨gb27002, 2, none⟩ = some (.int .i64 a1_2) := (blk_cell BK27002.out 2).trans rfl; have hcz26_3 : w23.cell? ⟨gb27002, 3, none⟩ = some (.slice A1_3 l1_3.length c1_3) := (blk_cell BK27002.out 3).trans rfl; have hfz26_0 := blk_frozen BK27002.out 0; have hfz26_1 := blk_frozen BK27002.out 1; have hfz26_2 := blk_frozen BK27002.out 2; have hfz26_3 := blk_frozen BK27002.out 3))
  go_ret
  exact ⟨by rfl, by exact HB.out⟩


def spec_inRange.f (a0 : Int) (a1 : Int) (a2 : Int) : Option (Bool) := if a1 ≤ a0 then (some (decide (a0 ≤ a2))) else (some false)
theorem spec_inRange.calls (a0 : Int) (a1 : Int) (a2 : Int) (r : Bool) (w : World) (h : spec_inRange.f a0 a1 a2 = some r) :
  Calls Try.prog 110 #[.int .i64 a0, .int .i64 a1, .int .i64 a2] w fun e w' => e = .returned (.bool r) ∧ Drawn0 w w' := by
 have H : (if a1 ≤ a0 then (some (decide (a0 ≤ a2))) else (some false)) = some r := h
 clear h
 by_cases c4 : a1 ≤ a0
 ·rw [if_pos c4] at H
  have c4b0 : decide (a1 ≤ a0) = true := decide_eq_true c4
  clear c4
  obtain rfl := Option.some.inj H
  go_enter Try.func110, Try.ntmps110
  go_wp2
  go_ret
  exact ⟨by first | rfl | (simp; done) | (simp [*]; done), by repeat (first | exact Drawn0.refl _ | apply Drawn0.step)⟩
 ·rw [if_neg c4] at H
  have c4b0 : decide (a1 ≤ a0) = false := decide_eq_false c4
  clear c4
  obtain rfl := Option.some.inj H
  go_enter Try.func110, Try.ntmps110
  go_wp2
  go_ret
  exact ⟨by first | rfl | (simp; done) | (simp [*]; done), by repeat (first | exact Drawn0.refl _ | apply Drawn0.step)⟩


def spec_validShape.f (a0 : Int) (a1 : Int) (a2 : Int) : Option (Bool) := (spec_inRange.f a0 1 16).bind fun t135001 => (if t135001 = true then ((spec_inRange.f a1 1 16).bind fun t135002 => (if t135002 = true then ((spec_inRange.f a2 1 4).bind fun t135003 => (some t135003)) else (some false))) else (some false))
theorem spec_validShape.calls (a0 : Int) (a1 : Int) (a2 : Int) (r : Bool) (w : World) (h : spec_validShape.f a0 a1 a2 = some r) :
  Calls Try.prog 134 #[.int .i64 a0, .int .i64 a1, .int .i64 a2] w fun e w' => e = .returned (.bool r) ∧ Drawn0 w w' := by
 have H : ((spec_inRange.f a0 1 16).bind fun t135001 => (if t135001 = true then ((spec_inRange.f a1 1 16).bind fun t135002 => (if t135002 = true then ((spec_inRange.f a2 1 4).bind fun t135003 => (some t135003)) else (some false))) else (some false))) = some r := h
 clear h
 replace H := Option.bind_eq_some_iff.mp H
 obtain ⟨t135001, A40, H⟩ := H
 replace H : (if t135001 = true then ((spec_inRange.f a1 1 16).bind fun t135002 => (if t135002 = true then ((spec_inRange.f a2 1 4).bind fun t135003 => (some t135003)) else (some false))) else (some false)) = some r := H
 have A4 := Aside0.mk A40
 clear A40
 by_cases c5 : t135001 = true
 ·subst c5
  have H1 : ((spec_inRange.f a1 1 16).bind fun t135002 => (if t135002 = true then ((spec_inRange.f a2 1 4).bind fun t135003 => (some t135003)) else (some false))) = some r := by rw [if_pos rfl] at H; exact H
  clear H
  have H := H1
  clear H1
  replace H := Option.bind_eq_some_iff.mp H
  obtain ⟨t135002, A60, H⟩ := H
  replace H : (if t135002 = true then ((spec_inRange.f a2 1 4).bind fun t135003 => (some t135003)) else (some false)) = some r := H
  have A6 := Aside0.mk A60
  clear A60
  by_cases c7 : t135002 = true
  ·subst c7
   have H1 : ((spec_inRange.f a2 1 4).bind fun t135003 => (some t135003)) = some r := by rw [if_pos rfl] at H; exact H
   clear H
   have H := H1
   clear H1
   replace H := Option.bind_eq_some_iff.mp H
   obtain ⟨t135003, A80, H⟩ := H
   replace H : (some t135003) = some r := H
   have A8 := Aside0.mk A80
   clear A80
   obtain rfl := Option.some.inj H
   go_enter Try.func134, Try.ntmps134
   go_wp2_with (first | ((with_reducible refine gate_callee (f := 110) rfl ?_); refine goesL_ (some 8) rfl rfl Try.func110 (by kernel_rfl) rfl #[.int .i64 a0, .int .i64 1, .int .i64 16] rfl (by (try simp only [List.map_toArray, List.map_cons, List.map_nil]); first | done | rfl | (simp only [List.length_drop, List.length_take]; rfl)) ?_; (with_reducible refine (spec_inRange.calls a0 1 16 true _ A4.out).mono ?_); rintro e w' ⟨rfl, ⟨nd, rfl⟩⟩; refine ⟨_, rfl, ?_⟩) | (go_at_call 110; (with_reducible refine (spec_inRange.calls a1 1 16 true _ A6.out).mono ?_); rintro e w' ⟨rfl, ⟨nd, rfl⟩⟩) | (go_at_call 110; (with_reducible refine (spec_inRange.calls a2 1 4 t135003 _ A8.out).mono ?_); rintro e w' ⟨rfl, ⟨nd, rfl⟩⟩))
   go_ret
   exact ⟨by first | rfl | (simp; done) | (simp [*]; done), by repeat (first | exact Drawn0.refl _ | apply Drawn0.step)⟩
  ·replace c7 := Bool.eq_false_iff.mpr c7
   subst c7
   have H1 : (some false) = some r := by rw [if_neg (show ¬ (false = true) by decide)] at H; exact H
   clear H
   have H := H1
   clear H1
   obtain rfl := Option.some.inj H
   go_enter Try.func134, Try.ntmps134
   go_wp2_with (first | ((with_reducible refine gate_callee (f := 110) rfl ?_); refine goesL_ (some 8) rfl rfl Try.func110 (by kernel_rfl) rfl #[.int .i64 a0, .int .i64 1, .int .i64 16] rfl (by (try simp only [List.map_toArray, List.map_cons, List.map_nil]); first | done | rfl | (simp only [List.length_drop, List.length_take]; rfl)) ?_; (with_reducible refine (spec_inRange.calls a0 1 16 true _ A4.out).mono ?_); rintro e w' ⟨rfl, ⟨nd, rfl⟩⟩; refine ⟨_, rfl, ?_⟩) | (go_at_call 110; (with_reducible refine (spec_inRange.calls a1 1 16 false _ A6.out).mono ?_); rintro e w' ⟨rfl, ⟨nd, rfl⟩⟩))
   go_ret
   exact ⟨by first | rfl | (simp; done) | (simp [*]; done), by repeat (first | exact Drawn0.refl _ | apply Drawn0.step)⟩
 ·replace c5 := Bool.eq_false_iff.mpr c5
  subst c5
  have H1 : (some false) = some r := by rw [if_neg (show ¬ (false = true) by decide)] at H; exact H
  clear H
  have H := H1
  clear H1
  obtain rfl := Option.some.inj H
  go_enter Try.func134, Try.ntmps134
  go_wp2_with (first | ((with_reducible refine gate_callee (f := 110) rfl ?_); refine goesL_ (some 8) rfl rfl Try.func110 (by kernel_rfl) rfl #[.int .i64 a0, .int .i64 1, .int .i64 16] rfl (by (try simp only [List.map_toArray, List.map_cons, List.map_nil]); first | done | rfl | (simp only [List.length_drop, List.length_take]; rfl)) ?_; (with_reducible refine (spec_inRange.calls a0 1 16 false _ A4.out).mono ?_); rintro e w' ⟨rfl, ⟨nd, rfl⟩⟩; refine ⟨_, rfl, ?_⟩))
  go_ret
  exact ⟨by first | rfl | (simp; done) | (simp [*]; done), by repeat (first | exact Drawn0.refl _ | apply Drawn0.step)⟩


def spec_allIn.l0 : Nat → List Int → Int → Int → Int → Option (Bool)
 | 0, _, _, _, _ => none
 | k + 1, x0, x1, x2, x7 => if x7 < (x0.length : Int) then (if 0 ≤ x7 then ((spec_inRange.f (rd x0 x7) x1 x2).bind fun t136002 => (if t136002 = true then (spec_allIn.l0 k x0 x1 x2 (wrap64 (x7 + 1))) else (some false))) else (none)) else (some true)
def spec_allIn.f (k : Nat) (l0 : List Int) (a1 : Int) (a2 : Int) : Option (Bool) := spec_allIn.l0 k l0 a1 a2 0
theorem spec_allIn.calls (k : Nat) (A0 : Option Addr) (c0 : Nat) (l0 : List Int) (a1 : Int) (a2 : Int) (r : Bool) (w : World) (hr0 : Kd.C (Kd.int .i64) w A0 l0.length l0) (hc0 : l0.length ≤ c0) (h : spec_allIn.f k l0 a1 a2 = some r) :
  Calls Try.prog 135 #[.slice A0 l0.length c0, .int .i64 a1, .int .i64 a2] w fun e w' => e = .returned (.bool r) ∧ Drawn0 w w' := by
 have HR0 := Aside0.mk hr0
 have HC0 := Aside0.mk hc0
 clear hr0 hc0
 have H : (spec_allIn.l0 k l0 a1 a2 0) = some r := h
 clear h
 have H' := Aside0.mk H
 clear H
 go_enter Try.func135, Try.ntmps135
 go_wp2
 go_loopg [7] k (fun kq v7 w' => ∃ (x7_1 : Int), v7 = .int .i64 x7_1 ∧ Aside0 (spec_allIn.l0 kq l0 a1 a2 x7_1 = some r) ∧ Aside0 (kq ≤ k) ∧ Drawn0 w w')
 case atStart => exact ⟨(0), (by first | rfl | (simp; done) | (simp [*]; done)), H', ⟨Nat.le_refl _⟩, by repeat (first | exact Drawn0.refl _ | apply Drawn0.step)⟩
 case round =>
  clear H'
  try clear c1
  try clear p2
  obtain ⟨x7_1, rfl, HA, HK1, ⟨m1, rfl⟩⟩ := hrel
  cases gk with
  | zero => exact absurd HA.out (by simp [spec_allIn.l0])
  | succ k1 =>
   have H := HA.out
   clear HA
   simp only [spec_allIn.l0] at H
   by_cases c4 : x7_1 < (l0.length : Int)
   ·rw [if_pos c4] at H
    have c4b0 : decide (x7_1 < (l0.length : Int)) = true := decide_eq_true c4
    clear c4
    by_cases c5 : 0 ≤ x7_1
    ·rw [if_pos c5] at H
     have c5b0 : decide (0 ≤ x7_1) = true := decide_eq_true c5
     clear c5
     replace H := Option.bind_eq_some_iff.mp H
     obtain ⟨t136002, A60, H⟩ := H
     replace H : (if t136002 = true then (spec_allIn.l0 k1 l0 a1 a2 (wrap64 (x7_1 + 1))) else (some false)) = some r := H
     have A6 := Aside0.mk A60
     clear A60
     by_cases c7 : t136002 = true
     ·subst c7
      have H1 : (spec_allIn.l0 k1 l0 a1 a2 (wrap64 (x7_1 + 1))) = some r := by rw [if_pos rfl] at H; exact H
      clear H
      have H := H1
      clear H1
      have H' := Aside0.mk H
      clear H
      have p136001 : 0 ≤ (x7_1 : Int) := of_decide_eq_true (by first | (with_reducible assumption) | assumption)
      have q136001 : x7_1 < (l0.length : Int) := of_decide_eq_true (by first | (with_reducible assumption) | assumption)
      obtain ⟨ad136001, e136001, hx136001_0⟩ := Kd.at_int HR0.out x7_1 p136001 q136001
      cases e136001
      replace p136001 := eq_true p136001
      replace q136001 := eq_true q136001
      go_wp2_with (first | ((with_reducible refine gate_callee (f := 110) rfl ?_); refine goesL_ (some 20) rfl rfl Try.func110 (by kernel_rfl) rfl #[.int .i64 (rd l0 x7_1), .int .i64 a1, .int .i64 a2] rfl (by (try simp only [List.map_toArray, List.map_cons, List.map_nil]); first | done | rfl | (simp only [List.length_drop, List.length_take]; rfl)) ?_; (with_reducible refine (spec_inRange.calls (rd l0 x7_1) a1 a2 true _ A6.out).mono ?_); rintro e w' ⟨rfl, ⟨nd, rfl⟩⟩; refine ⟨_, rfl, ?_⟩))
      go_roundg k1
      case measure => have := HK1.out; omega
      case rel => exact ⟨(wrap64 (x7_1 + 1)), (by first | rfl | (simp; done) | (simp [*]; done)), H', ⟨by have := HK1.out; omega⟩, by repeat (first | exact Drawn0.refl _ | apply Drawn0.step)⟩
     ·replace c7 := Bool.eq_false_iff.mpr c7
      subst c7
      have H1 : (some false) = some r := by rw [if_neg (show ¬ (false = true) by decide)] at H; exact H
      clear H
      have H := H1
      clear H1
      obtain rfl := Option.some.inj H
      have p136001 : 0 ≤ (x7_1 : Int) := of_decide_eq_true (by first | (with_reducible assumption) | assumption)
      have q136001 : x7_1 < (l0.length : Int) := of_decide_eq_true (by first | (with_reducible assumption) | assumption)
      obtain ⟨ad136001, e136001, hx136001_0⟩ := Kd.at_int HR0.out x7_1 p136001 q136001
      cases e136001
      replace p136001 := eq_true p136001
      replace q136001 := eq_true q136001
      go_wp2_with (first | ((with_reducible refine gate_callee (f := 110) rfl ?_); refine goesL_ (some 20) rfl rfl Try.func110 (by kernel_rfl) rfl #[.int .i64 (rd l0 x7_1), .int .i64 a1, .int .i64 a2] rfl (by (try simp only [List.map_toArray, List.map_cons, List.map_nil]); first | done | rfl | (simp only [List.length_drop, List.length_take]; rfl)) ?_; (with_reducible refine (spec_inRange.calls (rd l0 x7_1) a1 a2 false _ A6.out).mono ?_); rintro e w' ⟨rfl, ⟨nd, rfl⟩⟩; refine ⟨_, rfl, ?_⟩))
      go_ret
      exact ⟨by first | rfl | (simp; done) | (simp [*]; done), by repeat (first | exact Drawn0.refl _ | apply Drawn0.step)⟩
    ·rw [if_neg c5] at H
     exact absurd H (by simp)
   ·rw [if_neg c4] at H
    have c4b0 : decide (x7_1 < (l0.length : Int)) = false := decide_eq_false c4
    clear c4
    obtain rfl := Option.some.inj H
    go_wp2
    go_ret
    exact ⟨by first | rfl | (simp; done) | (simp [*]; done), by repeat (first | exact Drawn0.refl _ | apply Drawn0.step)⟩


def spec_validImage.f (k : Nat) (a0_0 : Int) (a0_1 : Int) (a0_2 : Int) (l0_3 : List Int) : Option Bool := (spec_validShape.f a0_0 a0_1 a0_2).bind fun tz1 => (if tz1 = true then (if (l0_3.length : Int) = (wrap64 ((wrap64 (a0_0 * a0_1)) * a0_2)) then ((spec_allIn.f k l0_3 0 255).bind fun tz0 => (some tz0)) else (some false)) else (some false))
theorem spec_validImage.calls (k : Nat) (a0_0 : Int) (a0_1 : Int) (a0_2 : Int) (A0_3 : Option Addr) (c0_3 : Nat) (l0_3 : List Int) (r : Bool) (w : World) (hr0_3 : Kd.C (Kd.int .i64) w A0_3 l0_3.length l0_3) (hc0_3 : l0_3.length ≤ c0_3) (h : spec_validImage.f k a0_0 a0_1 a0_2 l0_3 = some r) :
  Calls Try.prog 89 #[.agg #[.int .i64 a0_0, .int .i64 a0_1, .int .i64 a0_2, .slice A0_3 l0_3.length c0_3]] w fun e w' => e = .returned (.bool r) ∧ Below w.heap.size w w' := by
 have hu27 := Try.underlying27
 have HR0_3 := Aside0.mk hr0_3
 have HC0_3 := Aside0.mk hc0_3
 clear hr0_3 hc0_3
 have HB := Aside0.mk (Below.refl w.heap.size w)
 have H : ((spec_validShape.f a0_0 a0_1 a0_2).bind fun tz1 => (if tz1 = true then (if (l0_3.length : Int) = (wrap64 ((wrap64 (a0_0 * a0_1)) * a0_2)) then ((spec_allIn.f k l0_3 0 255).bind fun tz0 => (some tz0)) else (some false)) else (some false))) = some r := h
 clear h
 replace H := Option.bind_eq_some_iff.mp H
 obtain ⟨tz1, A20, H⟩ := H
 replace H : (if tz1 = true then (if (l0_3.length : Int) = (wrap64 ((wrap64 (a0_0 * a0_1)) * a0_2)) then ((spec_allIn.f k l0_3 0 255).bind fun tz0 => (some tz0)) else (some false)) else (some false)) = some r := H
 have A2 := Aside0.mk A20
 clear A20
 by_cases c3 : tz1 = true
 ·subst c3
  have H1 : (if (l0_3.length : Int) = (wrap64 ((wrap64 (a0_0 * a0_1)) * a0_2)) then ((spec_allIn.f k l0_3 0 255).bind fun tz0 => (some tz0)) else (some false)) = some r := by rw [if_pos rfl] at H; exact H
  clear H
  have H := H1
  clear H1
  by_cases c4 : (l0_3.length : Int) = (wrap64 ((wrap64 (a0_0 * a0_1)) * a0_2))
  ·rw [if_pos c4] at H
   have c4b0 : ((l0_3.length : Int) == (wrap64 ((wrap64 (a0_0 * a0_1)) * a0_2))) = true := beq_iff_eq.mpr c4
   have c4b1 : ((l0_3.length : Int) != (wrap64 ((wrap64 (a0_0 * a0_1)) * a0_2))) = false := bne_eq_false_iff_eq.mpr c4
   clear c4
   replace H := Option.bind_eq_some_iff.mp H
   obtain ⟨tz0, A50, H⟩ := H
   replace H : (some tz0) = some r := H
   have A5 := Aside0.mk A50
   clear A50
   obtain rfl := Option.some.inj H
   go_enter Try.func89, Try.ntmps89
   go_wp2_with (first | ((with_reducible refine gate_dst (N := 1) rfl ?_); (try (refine gate_guard (by rfl) ?_; dsimp only)); refine box_event (by rfl) (N := 1) (by rfl) (cs := #[.int .i64 a0_0, .int .i64 a0_1, .int .i64 a0_2, .slice A0_3 l0_3.length c0_3]) (t := 27) (by go_simp; done) ?_; intro gbz0 hg w6 hbox hb; replace HB := Aside0.mk (below_step HB.out hb); have BKz0 := Aside0.mk (hbox); clear hb hbox hg; have hcz7_0 : w6.cell? ⟨gbz0, 0, none⟩ = some (.int .i64 a0_0) := (blk_cell BKz0.out 0).trans rfl; have hcz7_1 : w6.cell? ⟨gbz0, 1, none⟩ = some (.int .i64 a0_1) := (blk_cell BKz0.out 1).trans rfl; have hcz7_2 : w6.cell? ⟨gbz0, 2, none⟩ = some (.int .i64 a0_2) := (blk_cell BKz0.out 2).trans rfl; have hcz7_3 : w6.cell? ⟨gbz0, 3, none⟩ = some (.slice A0_3 l0_3.length c0_3) := (blk_cell BKz0.out 3).trans rfl) | ((with_reducible refine gate_callee (f := 134) rfl ?_); refine goesL_ (some 9) rfl rfl Try.func134 (by kernel_rfl) rfl #[.int .i64 a0_0, .int .i64 a0_1, .int .i64 a0_2] rfl (by (try simp only [bitvec_to_nat]); rfl) ?_; (with_reducible refine (spec_validShape.calls a0_0 a0_1 a0_2 true _ A2.out).mono ?_); rintro e w' ⟨rfl, ⟨nd, rfl⟩⟩; refine ⟨_, rfl, ?_⟩) | (go_at_call 135; (with_reducible refine (spec_allIn.calls k _ _ l0_3 0 255 tz0 _ ?side1 ?side2 A5.out).mono ?_); (case side1 => repeat (exact (Kd.C_below HR0_3.out (by repeat (with_reducible first | exact HB.out | apply pw_below_drewN))))); (case side2 => exact HC0_3.out); rintro e w' ⟨rfl, ⟨nd, rfl⟩⟩))
   go_ret
   exact ⟨by rfl, by repeat (with_reducible first | exact HB.out | apply pw_below_drewN)⟩
  rw [if_neg c4] at H
  have c4b0 : ((l0_3.length : Int) == (wrap64 ((wrap64 (a0_0 * a0_1)) * a0_2))) = false := beq_eq_false_iff_ne.mpr c4
  have c4b1 : ((l0_3.length : Int) != (wrap64 ((wrap64 (a0_0 * a0_1)) * a0_2))) = true := bne_iff_ne.mpr c4
  obtain rfl := Option.some.inj H
  go_enter Try.func89, Try.ntmps89
  go_wp2_with (first | ((with_reducible refine gate_dst (N := 1) rfl ?_); (try (refine gate_guard (by rfl) ?_; dsimp only)); refine box_event (by rfl) (N := 1) (by rfl) (cs := #[.int .i64 a0_0, .int .i64 a0_1, .int .i64 a0_2, .slice A0_3 l0_3.length c0_3]) (t := 27) (by go_simp; done) ?_; intro gbz0 hg w8 hbox hb; replace HB := Aside0.mk (below_step HB.out hb); have BKz0 := Aside0.mk (hbox); clear hb hbox hg; have hcz9_0 : w8.cell? ⟨gbz0, 0, none⟩ = some (.int .i64 a0_0) := (blk_cell BKz0.out 0).trans rfl; have hcz9_1 : w8.cell? ⟨gbz0, 1, none⟩ = some (.int .i64 a0_1) := (blk_cell BKz0.out 1).trans rfl; have hcz9_2 : w8.cell? ⟨gbz0, 2, none⟩ = some (.int .i64 a0_2) := (blk_cell BKz0.out 2).trans rfl; have hcz9_3 : w8.cell? ⟨gbz0, 3, none⟩ = some (.slice A0_3 l0_3.length c0_3) := (blk_cell BKz0.out 3).trans rfl) | ((with_reducible refine gate_callee (f := 134) rfl ?_); refine goesL_ (some 9) rfl rfl Try.func134 (by kernel_rfl) rfl #[.int .i64 a0_0, .int .i64 a0_1, .int .i64 a0_2] rfl (by (try simp only [bitvec_to_nat]); rfl) ?_; (with_reducible refine (spec_validShape.calls a0_0 a0_1 a0_2 true _ A2.out).mono ?_); rintro e w' ⟨rfl, ⟨nd, rfl⟩⟩; refine ⟨_, rfl, ?_⟩))
  go_ret
  exact ⟨by rfl, by repeat (with_reducible first | exact HB.out | apply pw_below_drewN)⟩
 replace c3 := Bool.eq_false_iff.mpr c3
 subst c3
 have H1 : (some false) = some r := by rw [if_neg (show ¬ (false = true) by decide)] at H; exact H
 clear H
 have H := H1
 clear H1
 obtain rfl := Option.some.inj H
 go_enter Try.func89, Try.ntmps89
 go_wp2_with (first | ((with_reducible refine gate_dst (N := 1) rfl ?_); (try (refine gate_guard (by rfl) ?_; dsimp only)); refine box_event (by rfl) (N := 1) (by rfl) (cs := #[.int .i64 a0_0, .int .i64 a0_1, .int .i64 a0_2, .slice A0_3 l0_3.length c0_3]) (t := 27) (by go_simp; done) ?_; intro gbz0 hg w10 hbox hb; replace HB := Aside0.mk (below_step HB.out hb); have BKz0 := Aside0.mk (hbox); clear hb hbox hg; have hcz11_0 : w10.cell? ⟨gbz0, 0, none⟩ = some (.int .i64 a0_0) := (blk_cell BKz0.out 0).trans rfl; have hcz11_1 : w10.cell? ⟨gbz0, 1, none⟩ = some (.int .i64 a0_1) := (blk_cell BKz0.out 1).trans rfl; have hcz11_2 : w10.cell? ⟨gbz0, 2, none⟩ = some (.int .i64 a0_2) := (blk_cell BKz0.out 2).trans rfl) | ((with_reducible refine gate_callee (f := 134) rfl ?_); refine goesL_ (some 9) rfl rfl Try.func134 (by kernel_rfl) rfl #[.int .i64 a0_0, .int .i64 a0_1, .int .i64 a0_2] rfl (by (try simp only [bitvec_to_nat]); rfl) ?_; (with_reducible refine (spec_validShape.calls a0_0 a0_1 a0_2 false _ A2.out).mono ?_); rintro e w' ⟨rfl, ⟨nd, rfl⟩⟩; refine ⟨_, rfl, ?_⟩))
 go_ret
 exact ⟨by rfl, by repeat (with_reducible first | exact HB.out | apply pw_below_drewN)⟩


def spec_sameShape.f (k : Nat) (a0_0 : Int) (a0_1 : Int) (a0_2 : Int) (l0_3 : List Int) (a1_0 : Int) (a1_1 : Int) (a1_2 : Int) (l1_3 : List Int) : Option Bool := (spec_validImage.f k a0_0 a0_1 a0_2 l0_3).bind fun tz1 => (if tz1 = true then ((spec_validImage.f k a1_0 a1_1 a1_2 l1_3).bind fun tz0 => (if tz0 = true then (if a0_0 = a1_0 then (if a0_1 = a1_1 then (some (a0_2 == a1_2)) else (some false)) else (some false)) else (some false))) else (some false))
theorem spec_sameShape.calls (k : Nat) (a0_0 : Int) (a0_1 : Int) (a0_2 : Int) (A0_3 : Option Addr) (c0_3 : Nat) (l0_3 : List Int) (a1_0 : Int) (a1_1 : Int) (a1_2 : Int) (A1_3 : Option Addr) (c1_3 : Nat) (l1_3 : List Int) (r : Bool) (w : World) (hr0_3 : Kd.C (Kd.int .i64) w A0_3 l0_3.length l0_3) (hc0_3 : l0_3.length ≤ c0_3) (hr1_3 : Kd.C (Kd.int .i64) w A1_3 l1_3.length l1_3) (hc1_3 : l1_3.length ≤ c1_3) (h : spec_sameShape.f k a0_0 a0_1 a0_2 l0_3 a1_0 a1_1 a1_2 l1_3 = some r) :
  Calls Try.prog 81 #[.agg #[.int .i64 a0_0, .int .i64 a0_1, .int .i64 a0_2, .slice A0_3 l0_3.length c0_3], .agg #[.int .i64 a1_0, .int .i64 a1_1, .int .i64 a1_2, .slice A1_3 l1_3.length c1_3]] w fun e w' => e = .returned (.bool r) ∧ Below w.heap.size w w' := by
 have hu27 := Try.underlying27
 have HR0_3 := mk hr0_3
 have HC0_3 := mk hc0_3
 clear hr0_3 hc0_3
 have HR1_3 := mk hr1_3
 have HC1_3 := mk hc1_3
 clear hr1_3 hc1_3
 have HB := mk (Below.refl w.heap.size w)
 have H : ((spec_validImage.f k a0_0 a0_1 a0_2 l0_3).bind fun tz1 => (if tz1 = true then ((spec_validImage.f k a1_0 a1_1 a1_2 l1_3).bind fun tz0 => (if tz0 = true then (if a0_0 = a1_0 then (if a0_1 = a1_1 then (some (a0_2 == a1_2)) else (some false)) else (some false)) else (some false))) else (some false))) = some r := h
 clear h
 replace H := Option.bind_eq_some_iff.mp H
 obtain ⟨tz1, A30, H⟩ := H
 replace H : (if tz1 = true then ((spec_validImage.f k a1_0 a1_1 a1_2 l1_3).bind fun tz0 => (if tz0 = true then (if a0_0 = a1_0 then (if a0_1 = a1_1 then (some (a0_2 == a1_2)) else (some false)) else (some false)) else (some false))) else (some false)) = some r := H
 have A3 := mk A30
 clear A30
 by_cases c4 : tz1 = true
 ·subst c4
  have H1 : ((spec_validImage.f k a1_0 a1_1 a1_2 l1_3).bind fun tz0 => (if tz0 = true then (if a0_0 = a1_0 then (if a0_1 = a1_1 then (some (a0_2 == a1_2)) else (some false)) else (some false)) else (some false))) = some r := by rw [if_pos rfl] at H; exact H
  clear H
  have H := H1
  clear H1
  replace H := Option.bind_eq_some_iff.mp H
  obtain ⟨tz0, A50, H⟩ := H
  replace H : (if tz0 = true then (if a0_0 = a1_0 then (if a0_1 = a1_1 then (some (a0_2 == a1_2)) else (some false)) else (some false)) else (some false)) = some r := H
  have A5 := mk A50
  clear A50
  by_cases c6 : tz0 = true
  ·subst c6
   have H1 : (if a0_0 = a1_0 then (if a0_1 = a1_1 then (some (a0_2 == a1_2)) else (some false)) else (some false)) = some r := by rw [if_pos rfl] at H; exact H
   clear H
   have H := H1
   clear H1
   by_cases c7 : a0_0 = a1_0
   ·rw [if_pos c7] at H
    have c7b0 : (a0_0 == a1_0) = true := beq_iff_eq.mpr c7
    have c7b1 : (a0_0 != a1_0) = false := bne_eq_false_iff_eq.mpr c7
    clear c7
    by_cases c8 : a0_1 = a1_1
    ·rw [if_pos c8] at H
     have c8b0 : (a0_1 == a1_1) = true := beq_iff_eq.mpr c8
     have c8b1 : (a0_1 != a1_1) = false := bne_eq_false_iff_eq.mpr c8
     clear c8
     obtain rfl := Option.some.inj H
     go_enter Try.func81, Try.ntmps81
     go_wp2_with (first | ((with_reducible refine gate_dst (N := 2) rfl ?_); refine box_event (by rfl) (N := 2) (by rfl) (cs := #[.int .i64 a0_0, .int .i64 a0_1, .int .i64 a0_2, .slice A0_3 l0_3.length c0_3]) (t := 27) (by go_simp; done) ?_; intro gbz0 hg w9 hbox hb; replace HB := mk (below_step HB.out hb); have BKz0 := mk (hbox); clear hb hbox hg) | ((with_reducible refine gate_dst (N := 3) rfl ?_); refine box_event (by rfl) (N := 3) (by rfl) (cs := #[.int .i64 a1_0, .int .i64 a1_1, .int .i64 a1_2, .slice A1_3 l1_3.length c1_3]) (t := 27) (by go_simp; done) ?_; intro gbz1 hg w10 hbox hb; replace BKz0 := mk (blk_below BKz0.out hb); replace HB := mk (below_step HB.out hb); have BKz1 := mk (hbox); clear hb hbox hg; obtain ⟨hcz12_0, hcz12_1, hcz12_2, -⟩ := c4 BKz0.out; have hcz12_3 : w10.cell? ⟨gbz0, 3, none⟩ = some (.slice A0_3 l0_3.length c0_3) := (blk_cell BKz0.out 3).trans rfl) | ((with_reducible refine gate_callee (f := 89) rfl ?_); refine goesL_ (some 6) rfl rfl Try.func89 (by kernel_rfl) rfl #[.agg #[.int .i64 a0_0, .int .i64 a0_1, .int .i64 a0_2, .slice A0_3 l0_3.length c0_3]] rfl (by (try simp only [bitvec_to_nat]); rfl) ?_; (with_reducible refine (spec_validImage.calls k a0_0 a0_1 a0_2 _ _ l0_3 true _ ?side1 ?side2 A3.out).mono ?_); (case side1 => repeat (exact (Kd.C_below HR0_3.out HB.out))); (case side2 => exact HC0_3.out); rintro e w13 ⟨rfl, hb⟩; refine ⟨_, rfl, ?_⟩; replace BKz0 := mk (blk_below BKz0.out hb); replace BKz1 := mk (blk_below BKz1.out hb); replace HB := mk (below_step HB.out hb); (try clear hb); obtain ⟨hcz14_0, hcz14_1, hcz14_2, -⟩ := c4 BKz1.out; have hcz14_3 : w13.cell? ⟨gbz1, 3, none⟩ = some (.slice A1_3 l1_3.length c1_3) := (blk_cell BKz1.out 3).trans rfl) | (go_at_call 89; (with_reducible refine (spec_validImage.calls k a1_0 a1_1 a1_2 _ _ l1_3 true _ ?side1 ?side2 A5.out).mono ?_); (case side1 => repeat (exact (Kd.C_below HR1_3.out HB.out))); (case side2 => exact HC1_3.out); rintro e w15 ⟨rfl, hb⟩; replace BKz0 := mk (blk_below BKz0.out hb); replace BKz1 := mk (blk_below BKz1.out hb); replace HB := mk (below_step HB.out hb); (try clear hb); obtain ⟨hcz16_0, hcz16_1, hcz16_2, -⟩ := c4 BKz0.out; obtain ⟨hcz17_0, hcz17_1, hcz17_2, -⟩ := c4 BKz1.out))
     go_ret
     exact ⟨by rfl, by exact HB.out⟩
    rw [if_neg c8] at H
    have c8b0 : (a0_1 == a1_1) = false := beq_eq_false_iff_ne.mpr c8
    have c8b1 : (a0_1 != a1_1) = true := bne_iff_ne.mpr c8
    obtain rfl := Option.some.inj H
    go_enter Try.func81, Try.ntmps81
    go_wp2_with (first | ((with_reducible refine gate_dst (N := 2) rfl ?_); refine box_event (by rfl) (N := 2) (by rfl) (cs := #[.int .i64 a0_0, .int .i64 a0_1, .int .i64 a0_2, .slice A0_3 l0_3.length c0_3]) (t := 27) (by go_simp; done) ?_; intro gbz0 hg w18 hbox hb; replace HB := mk (below_step HB.out hb); have BKz0 := mk (hbox); clear hb hbox hg) | ((with_reducible refine gate_dst (N := 3) rfl ?_); refine box_event (by rfl) (N := 3) (by rfl) (cs := #[.int .i64 a1_0, .int .i64 a1_1, .int .i64 a1_2, .slice A1_3 l1_3.length c1_3]) (t := 27) (by go_simp; done) ?_; intro gbz1 hg w19 hbox hb; replace BKz0 := mk (blk_below BKz0.out hb); replace HB := mk (below_step HB.out hb); have BKz1 := mk (hbox); clear hb hbox hg; obtain ⟨hcz21_0, hcz21_1, hcz21_2, -⟩ := c4 BKz0.out; have hcz21_3 : w19.cell? ⟨gbz0, 3, none⟩ = some (.slice A0_3 l0_3.length c0_3) := (blk_cell BKz0.out 3).trans rfl) | ((with_reducible refine gate_callee (f := 89) rfl ?_); refine goesL_ (some 6) rfl rfl Try.func89 (by kernel_rfl) rfl #[.agg #[.int .i64 a0_0, .int .i64 a0_1, .int .i64 a0_2, .slice A0_3 l0_3.length c0_3]] rfl (by (try simp only [bitvec_to_nat]); rfl) ?_; (with_reducible refine (spec_validImage.calls k a0_0 a0_1 a0_2 _ _ l0_3 true _ ?side1 ?side2 A3.out).mono ?_); (case side1 => repeat (exact (Kd.C_below HR0_3.out HB.out))); (case side2 => exact HC0_3.out); rintro e w22 ⟨rfl, hb⟩; refine ⟨_, rfl, ?_⟩; replace BKz0 := mk (blk_below BKz0.out hb); replace BKz1 := mk (blk_below BKz1.out hb); replace HB := mk (below_step HB.out hb); (try clear hb); obtain ⟨hcz23_0, hcz23_1, hcz23_2, -⟩ := c4 BKz1.out; have hcz23_3 : w22.cell? ⟨gbz1, 3, none⟩ = some (.slice A1_3 l1_3.length c1_3) := (blk_cell BKz1.out 3).trans rfl) | (go_at_call 89; (with_reducible refine (spec_validImage.calls k a1_0 a1_1 a1_2 _ _ l1_3 true _ ?side1 ?side2 A5.out).mono ?_); (case side1 => repeat (exact (Kd.C_below HR1_3.out HB.out))); (case side2 => exact HC1_3.out); rintro e w24 ⟨rfl, hb⟩; replace BKz0 := mk (blk_below BKz0.out hb); replace BKz1 := mk (blk_below BKz1.out hb); replace HB := mk (below_step HB.out hb); (try clear hb); obtain ⟨hcz25_0, hcz25_1, -⟩ := c4 BKz0.out; obtain ⟨hcz26_0, hcz26_1, -⟩ := c4 BKz1.out))
    go_ret
    exact ⟨by rfl, by exact HB.out⟩
   rw [if_neg c7] at H
   have c7b0 : (a0_0 == a1_0) = false := beq_eq_false_iff_ne.mpr c7
   have c7b1 : (a0_0 != a1_0) = true := bne_iff_ne.mpr c7
   obtain rfl := Option.some.inj H
   go_enter Try.func81, Try.ntmps81
   go_wp2_with (first | ((with_reducible refine gate_dst (N := 2) rfl ?_); refine box_event (by rfl) (N := 2) (by rfl) (cs := #[.int .i64 a0_0, .int .i64 a0_1, .int .i64 a0_2, .slice A0_3 l0_3.length c0_3]) (t := 27) (by go_simp; done) ?_; intro gbz0 hg w27 hbox hb; replace HB := mk (below_step HB.out hb); have BKz0 := mk (hbox); clear hb hbox hg) | ((with_reducible refine gate_dst (N := 3) rfl ?_); refine box_event (by rfl) (N := 3) (by rfl) (cs := #[.int .i64 a1_0, .int .i64 a1_1, .int .i64 a1_2, .slice A1_3 l1_3.length c1_3]) (t := 27) (by go_simp; done) ?_; intro gbz1 hg w28 hbox hb; replace BKz0 := mk (blk_below BKz0.out hb); replace HB := mk (below_step HB.out hb); have BKz1 := mk (hbox); clear hb hbox hg; obtain ⟨hcz30_0, hcz30_1, hcz30_2, -⟩ := c4 BKz0.out; have hcz30_3 : w28.cell? ⟨gbz0, 3, none⟩ = some (.slice A0_3 l0_3.length c0_3) := (blk_cell BKz0.out 3).trans rfl) | ((with_reducible refine gate_callee (f := 89) rfl ?_); refine goesL_ (some 6) rfl rfl Try.func89 (by kernel_rfl) rfl #[.agg #[.int .i64 a0_0, .int .i64 a0_1, .int .i64 a0_2, .slice A0_3 l0_3.length c0_3]] rfl (by (try simp only [bitvec_to_nat]); rfl) ?_; (with_reducible refine (spec_validImage.calls k a0_0 a0_1 a0_2 _ _ l0_3 true _ ?side1 ?side2 A3.out).mono ?_); (case side1 => repeat (exact (Kd.C_below HR0_3.out HB.out))); (case side2 => exact HC0_3.out); rintro e w31 ⟨rfl, hb⟩; refine ⟨_, rfl, ?_⟩; replace BKz0 := mk (blk_below BKz0.out hb); replace BKz1 := mk (blk_below BKz1.out hb); replace HB := mk (below_step HB.out hb); (try clear hb); obtain ⟨hcz32_0, hcz32_1, hcz32_2, -⟩ := c4 BKz1.out; have hcz32_3 : w31.cell? ⟨gbz1, 3, none⟩ = some (.slice A1_3 l1_3.length c1_3) := (blk_cell BKz1.out 3).trans rfl) | (go_at_call 89; (with_reducible refine (spec_validImage.calls k a1_0 a1_1 a1_2 _ _ l1_3 true _ ?side1 ?side2 A5.out).mono ?_); (case side1 => repeat (exact (Kd.C_below HR1_3.out HB.out))); (case side2 => exact HC1_3.out); rintro e w33 ⟨rfl, hb⟩; replace BKz0 := mk (blk_below BKz0.out hb); replace BKz1 := mk (blk_below BKz1.out hb); replace HB := mk (below_step HB.out hb); (try clear hb); have hcz34_0 : w33.cell? ⟨gbz0, 0, none⟩ = some (.int .i64 a0_0) := (blk_cell BKz0.out 0).trans rfl; have hcz35_0 : w33.cell? ⟨gbz1, 0, none⟩ = some (.int .i64 a1_0) := (blk_cell BKz1.out 0).trans rfl))
   go_ret
   exact ⟨by rfl, by exact HB.out⟩
  replace c6 := Bool.eq_false_iff.mpr c6
  subst c6
  have H1 : (some false) = some r := by rw [if_neg (show ¬ (false = true) by decide)] at H; exact H
  clear H
  have H := H1
  clear H1
  obtain rfl := Option.some.inj H
  go_enter Try.func81, Try.ntmps81
  go_wp2_with (first | ((with_reducible refine gate_dst (N := 2) rfl ?_); refine box_event (by rfl) (N := 2) (by rfl) (cs := #[.int .i64 a0_0, .int .i64 a0_1, .int .i64 a0_2, .slice A0_3 l0_3.length c0_3]) (t := 27) (by go_simp; done) ?_; intro gbz0 hg w36 hbox hb; replace HB := mk (below_step HB.out hb); have BKz0 := mk (hbox); clear hb hbox hg) | ((with_reducible refine gate_dst (N := 3) rfl ?_); refine box_event (by rfl) (N := 3) (by rfl) (cs := #[.int .i64 a1_0, .int .i64 a1_1, .int .i64 a1_2, .slice A1_3 l1_3.length c1_3]) (t := 27) (by go_simp; done) ?_; intro gbz1 hg w37 hbox hb; replace BKz0 := mk (blk_below BKz0.out hb); replace HB := mk (below_step HB.out hb); have BKz1 := mk (hbox); clear hb hbox hg; obtain ⟨hcz39_0, hcz39_1, hcz39_2, -⟩ := c4 BKz0.out; have hcz39_3 : w37.cell? ⟨gbz0, 3, none⟩ = some (.slice A0_3 l0_3.length c0_3) := (blk_cell BKz0.out 3).trans rfl) | ((with_reducible refine gate_callee (f := 89) rfl ?_); refine goesL_ (some 6) rfl rfl Try.func89 (by kernel_rfl) rfl #[.agg #[.int .i64 a0_0, .int .i64 a0_1, .int .i64 a0_2, .slice A0_3 l0_3.length c0_3]] rfl (by (try simp only [bitvec_to_nat]); rfl) ?_; (with_reducible refine (spec_validImage.calls k a0_0 a0_1 a0_2 _ _ l0_3 true _ ?side1 ?side2 A3.out).mono ?_); (case side1 => repeat (exact (Kd.C_below HR0_3.out HB.out))); (case side2 => exact HC0_3.out); rintro e w40 ⟨rfl, hb⟩; refine ⟨_, rfl, ?_⟩; replace BKz0 := mk (blk_below BKz0.out hb); replace BKz1 := mk (blk_below BKz1.out hb); replace HB := mk (below_step HB.out hb); (try clear hb); obtain ⟨hcz41_0, hcz41_1, hcz41_2, -⟩ := c4 BKz1.out; have hcz41_3 : w40.cell? ⟨gbz1, 3, none⟩ = some (.slice A1_3 l1_3.length c1_3) := (blk_cell BKz1.out 3).trans rfl) | (go_at_call 89; (with_reducible refine (spec_validImage.calls k a1_0 a1_1 a1_2 _ _ l1_3 false _ ?side1 ?side2 A5.out).mono ?_); (case side1 => repeat (exact (Kd.C_below HR1_3.out HB.out))); (case side2 => exact HC1_3.out); rintro e w42 ⟨rfl, hb⟩; have n2_ := mk (below_step HB.out hb); clear BKz0; clear BKz1; clear HB; have HB := n2_; (try clear hb)))
  go_ret
  exact ⟨by rfl, by exact HB.out⟩
 replace c4 := Bool.eq_false_iff.mpr c4
 subst c4
 have H1 : (some false) = some r := by rw [if_neg (show ¬ (false = true) by decide)] at H; exact H
 clear H
 have H := H1
 clear H1
 obtain rfl := Option.some.inj H
 go_enter Try.func81, Try.ntmps81
 go_wp2_with (first | ((with_reducible refine gate_dst (N := 2) rfl ?_); refine box_event (by rfl) (N := 2) (by rfl) (cs := #[.int .i64 a0_0, .int .i64 a0_1, .int .i64 a0_2, .slice A0_3 l0_3.length c0_3]) (t := 27) (by go_simp; done) ?_; intro gbz0 hg w43 hbox hb; replace HB := mk (below_step HB.out hb); have BKz0 := mk (hbox); clear hb hbox hg) | ((with_reducible refine gate_dst (N := 3) rfl ?_); refine box_event (by rfl) (N := 3) (by rfl) (cs := #[.int .i64 a1_0, .int .i64 a1_1, .int .i64 a1_2, .slice A1_3 l1_3.length c1_3]) (t := 27) (by go_simp; done) ?_; intro gbz1 hg w44 hbox hb; replace BKz0 := mk (blk_below BKz0.out hb); replace HB := mk (below_step HB.out hb); have BKz1 := mk (hbox); clear hb hbox hg; obtain ⟨hcz46_0, hcz46_1, hcz46_2, -⟩ := c4 BKz0.out; have hcz46_3 : w44.cell? ⟨gbz0, 3, none⟩ = some (.slice A0_3 l0_3.length c0_3) := (blk_cell BKz0.out 3).trans rfl) | ((with_reducible refine gate_callee (f := 89) rfl ?_); refine goesL_ (some 6) rfl rfl Try.func89 (by kernel_rfl) rfl #[.agg #[.int .i64 a0_0, .int .i64 a0_1, .int .i64 a0_2, .slice A0_3 l0_3.length c0_3]] rfl (by (try simp only [bitvec_to_nat]); rfl) ?_; (with_reducible refine (spec_validImage.calls k a0_0 a0_1 a0_2 _ _ l0_3 false _ ?side1 ?side2 A3.out).mono ?_); (case side1 => repeat (exact (Kd.C_below HR0_3.out HB.out))); (case side2 => exact HC0_3.out); rintro e w47 ⟨rfl, hb⟩; refine ⟨_, rfl, ?_⟩; have n2_ := mk (below_step HB.out hb); clear BKz0; clear BKz1; clear HB; have HB := n2_; (try clear hb)))
 go_ret
 exact ⟨by rfl, by exact HB.out⟩


def spec_copyInts.f (l0 : List Int) : Option (List Int) := (some (([] : List Int) : List Int)).bind fun y130001 => (if y130001.length + l0.length < 17592186044416 then (some (y130001 ++ l0)) else (none))
theorem spec_copyInts.calls (A0 : Option Addr) (c0 : Nat) (l0 : List Int) (r : List Int) (w : World) (hr0 : Kd.C (Kd.int .i64) w A0 l0.length l0) (hc0 : l0.length ≤ c0) (h : spec_copyInts.f l0 = some r) :
  Calls Try.prog 129 #[.slice A0 l0.length c0] w fun e w' => ∃ v0_ : Value, e = .returned (v0_) ∧ Kd.R (Kd.int .i64) 3 w' w.heap.size (fun _ => True) v0_ r ∧ Below w.heap.size w w' := by
 have HR0 := Aside0.mk hr0
 have HC0 := Aside0.mk hc0
 clear hr0 hc0
 have HB := Aside0.mk (Below.refl w.heap.size w)
 have H : ((some (([] : List Int) : List Int)).bind fun y130001 => (if y130001.length + l0.length < 17592186044416 then (some (y130001 ++ l0)) else (none))) = some r := h
 clear h
 obtain ⟨y130001, hy130001⟩ : ∃ y_ : List Int, y_ = (([] : List Int)) := ⟨_, rfl⟩
 replace H : (if y130001.length + l0.length < 17592186044416 then (some (y130001 ++ l0)) else (none)) = some r := by first | (rw [hy130001]; with_reducible exact H) | (have H2_ := (Option.bind_some _ _).symm.trans H; rw [hy130001]; with_reducible exact H2_) | (have H2_ := (Option.bind_some _ _).symm.trans H; with_reducible exact H2_) | with_reducible exact H | (rw [hy130001]; exact H) | exact H
 have Ny130001 := Aside0.mk hy130001
 clear hy130001
 by_cases c2 : y130001.length + l0.length < 17592186044416
 ·rw [if_pos c2] at H
  have LMc2 := Aside0.mk c2
  clear c2
  obtain ⟨y130004, hy130004⟩ : ∃ y_ : List Int, y_ = (y130001 ++ l0) := ⟨_, rfl⟩
  replace H : (some y130004) = some r := by first | (rw [hy130004]; with_reducible exact H) | (have H2_ := (Option.bind_some _ _).symm.trans H; rw [hy130004]; with_reducible exact H2_) | (have H2_ := (Option.bind_some _ _).symm.trans H; with_reducible exact H2_) | with_reducible exact H | (rw [hy130004]; exact H) | exact H
  have Ny130004 := Aside0.mk hy130004
  clear hy130004
  obtain rfl := Option.some.inj H
  go_enter Try.func129, Try.ntmps129
  go_wp2_with (first | ((with_reducible refine gate_dst (N := 3) rfl ?_); refine Kd.R_lit (Kd.int .i64) _ 3 ?hg (N := 3) ?hd (xs := ([] : List Int)) (inner := []) (ok := fun _ => True) (okp := fun _ => True) ?hr ?hp (fun _ hk => hk) trivial (Below.refl _ _) (Nat.le_refl _) (by simp) ?_; (case hd => rfl); (case hg => rfl); (case hr => first | (go_simp; done) | (go_simp; rfl)); (case hp => exact (Reps.none _ _)); intro v130002 w3 ho4 hb hg_ hnew_; clear hg_ hnew_; (first | rw [← Ny130001.out] at ho4 | (simp only [Int.reduceToNat] at ho4; rw [← Ny130001.out] at ho4)); have n0_ := Aside0.mk (Kd.R_lower ho4 (below_size (by repeat (first | (with_reducible first | exact HB.out | apply below_alloc | apply pw_below_drewN | apply below_drew1) | exact HB.out)))); have n1_ := Aside0.mk (below_step (by repeat (first | (with_reducible first | exact HB.out | apply below_alloc | apply pw_below_drewN | apply below_drew1) | exact HB.out)) hb); clear HB; have HO130003 := n0_; have HB := n1_; clear n0_ n1_; clear hb ho4) | ((with_reducible refine gate_builtin (b := .append) (xs := #[.tmp 3, .tmp 4]) rfl ?_); at_builtin; refine Kd.R_append_rows (Kd.int .i64) (w0 := w) w.heap.size rfl (.tmp 3) (.tmp 4) 22 3 (.int .i64 0) 8 rfl Try.underlying22 info3 rfl (by decide) (by omega) v130002 y130001 l0 _ _ _ (fun _ => True) (fun _ => False) rfl rfl ?aO ?aR (fun _ _ h => h) (fun _ h => h.elim) ?aF ?aB ?aS ?aL ?_; (case aR => repeat (first | exact (Kd.C_below HR0.out HB.out) | (with_reducible refine Kd.C_alloc ?_ _) | (with_reducible refine Kd.C_drewN ?_ _) | (with_reducible refine Kd.C_drew ?_))); (case aB => exact (by repeat (first | (with_reducible first | exact HB.out | apply below_alloc | apply pw_below_drewN | apply below_drew1) | exact HB.out))); (case aF => exact (fun _ _ => trivial)); (case aO => exact (by (with_reducible repeat (first | apply Kd.R_alloc | apply Kd.R_drewN | apply Kd.R_drew)); exact HO130003.out)); (case aS => exact (below_size (by repeat (first | (with_reducible first | exact HB.out | apply below_alloc | apply pw_below_drewN | apply below_drew1) | exact HB.out)))); (case aL => have := LMc2.out; omega); intro v130005 w5 ho hb hg hat; rw [← Ny130004.out] at ho; have n0_ := Aside0.mk (hb); have n1_ := Aside0.mk (ho); clear HB; clear HO130003; have HB := n0_; have HO130006 := n1_; clear n0_ n1_; clear ho hb hg hat))
  go_ret
  exact ⟨_, by first | rfl | (simp [errW_none, errW_some] <;> rfl) | (simp [*, errW_none, errW_some] <;> rfl), by (with_reducible repeat (first | apply Kd.R_alloc | apply Kd.R_drewN | apply Kd.R_drew)); exact HO130006.out, by repeat (first | (with_reducible first | exact HB.out | apply below_alloc | apply pw_below_drewN | apply below_drew1) | exact HB.out)⟩
 ·rw [if_neg c2] at H
  exact absurd H (by simp)


def spec_copyImage.f (a0_0 : Int) (a0_1 : Int) (a0_2 : Int) (l0_3 : List Int) : Option (Int × Int × Int × List Int) := (spec_copyInts.f l0_3).bind fun tz0 => (some (a0_0, a0_1, a0_2, tz0))
def spec_copyImage.T1 : Bool × List (List Nat × List Nat) := (true, [([], []), ([0], [0]), ([], []), ([2], [2]), ([], []), ([4], [4]), ([], []), ([6], [6]), ([7], [7]), ([1, 3, 5, 8], [1, 3, 5, 8]), ([9, 8, 0, 1, 2, 3, 4, 5, 6, 7, 8, 9], [9])])
def spec_copyImage.B1 : List Nat := [0, 1, 0, 4, 0, 16, 0, 64, 192, 511, 1023]
theorem spec_copyImage.tab1 : rtab .any (opsOf Try.f113 1) = spec_copyImage.T1 := by kernel_rfl
theorem spec_copyImage.bits1 : waitsOk spec_copyImage.T1.2 spec_copyImage.B1 = true := by kernel_rfl
theorem spec_copyImage.calls (a0_0 : Int) (a0_1 : Int) (a0_2 : Int) (A0_3 : Option Addr) (c0_3 : Nat) (l0_3 : List Int) (r1 : Int) (r2 : Int) (r3 : Int) (r4 : List Int) (w : World) (hr0_3 : Kd.C (Kd.int .i64) w A0_3 l0_3.length l0_3) (hc0_3 : l0_3.length ≤ c0_3) (h : spec_copyImage.f a0_0 a0_1 a0_2 l0_3 = some (r1, r2, r3, r4)) :
  Calls Try.prog 113 #[.agg #[.int .i64 a0_0, .int .i64 a0_1, .int .i64 a0_2, .slice A0_3 l0_3.length c0_3]] w fun e w' => ∃ v3_ : Value, e = .returned (.agg #[.int .i64 r1, .int .i64 r2, .int .i64 r3, v3_]) ∧ Kd.R (Kd.int .i64) 3 w' w.heap.size (fun _ => True) v3_ r4 ∧ Below w.heap.size w w' := by
 have hu27 := Try.underlying27
 have HR0_3 := mk hr0_3
 have HC0_3 := mk hc0_3
 clear hr0_3 hc0_3
 have HB := mk (Below.refl w.heap.size w)
 have H : ((spec_copyInts.f l0_3).bind fun tz0 => (some (a0_0, a0_1, a0_2, tz0))) = some (r1, r2, r3, r4) := h
 clear h
 replace H := Option.bind_eq_some_iff.mp H
 obtain ⟨tz0, A20, H⟩ := H
 replace H : (some (a0_0, a0_1, a0_2, tz0)) = some (r1, r2, r3, r4) := H
 have A2 := mk A20
 clear A20
 simp only [Option.some.injEq, Prod.mk.injEq] at H
 obtain ⟨rfl, rfl, rfl, rfl⟩ := H
 go_enter Try.func113, Try.ntmps113
 try go_wp2_with (first | ((with_reducible refine gate_dst (N := 1) rfl ?_); refine box_event (by rfl) (N := 1) (by rfl) (cs := #[.int .i64 a0_0, .int .i64 a0_1, .int .i64 a0_2, .slice A0_3 l0_3.length c0_3]) (t := 27) (by go_simp; done) ?_; intro gbz1 hg w3 hbox hb; replace HB := mk (below_step HB.out hb); have BKz0 := mk (hbox); clear hb hbox hg) | ((with_reducible refine gate_dst (N := 2) rfl ?_); refine box_event (by rfl) (N := 2) (by rfl) (cs := #[.int .i64 0, .int .i64 0, .int .i64 0, .slice none 0 0]) (t := 27) (by go_simp; done) ?_; intro gbz0 hg w4 hbox hb; have BKz1 := mk (hbox); have GEz0 := mk ((by rw [hg]; exact (below_size HB.out) : w.heap.size ≤ gbz0)); replace HB := mk (below_step HB.out hb); have NBz0 := mk ((by rw [hg]; exact Nat.ne_of_lt (blk_lt BKz0.out) : gbz1 ≠ gbz0)); have NBz1 := mk ((by rw [hg]; exact Nat.ne_of_gt (blk_lt BKz0.out) : gbz0 ≠ gbz1)); replace BKz0 := mk (blk_below BKz0.out hb); clear hb hbox hg))
 replace BKz0 := mk (blk_drew BKz0.out)
 replace BKz1 := mk (blk_drew BKz1.out)
 replace HB := mk (below_drew1 HB.out)
 refine start_ (n := 11) (S := fun w' => w'.cell? ⟨gbz1, 0, none⟩ = some (.int .i64 a0_0) ∧ w'.cell? ⟨gbz1, 1, none⟩ = some (.int .i64 a0_1) ∧ w'.cell? ⟨gbz1, 2, none⟩ = some (.int .i64 a0_2) ∧ w'.cell? ⟨gbz1, 3, none⟩ = some (.slice A0_3 l0_3.length c0_3)) (ds := []) #[false, false, false, false, false, false, false, false, false, false, false] (by kernel_rfl) rfl rfl ⟨blk_cell BKz0.out 0, blk_cell BKz0.out 1, blk_cell BKz0.out 2, blk_cell BKz0.out 3⟩ (fun hHeld => ?_); refine with_tabW spec_copyImage.tab1 spec_copyImage.bits1 (fun HT_ HW_ => ?_)
 generalize w4.drew = w5 at BKz0 BKz1 HB hHeld ⊢
 refine pu 0 3 ?_ ?_ rfl rfl (any_of HT_.out (by kernel_rfl)) (Or.inl ⟨by rfl, ?_⟩) ?_ ?_
 rotate_left 2
 ·intro w'
  go_simp
  with_reducible rfl
 ·simp only [seval]
  rfl
 refine pu 2 5 ?_ ?_ rfl rfl (any_of HT_.out (by kernel_rfl)) (Or.inl ⟨by rfl, ?_⟩) ?_ ?_
 rotate_left 2
 ·intro w'
  go_simp
  with_reducible rfl
 ·simp only [seval]
  rfl
 refine pu 4 7 ?_ ?_ rfl rfl (any_of HT_.out (by kernel_rfl)) (Or.inl ⟨by rfl, ?_⟩) ?_ ?_
 rotate_left 2
 ·intro w'
  go_simp
  with_reducible rfl
 ·simp only [seval]
  rfl
 refine pu 6 9 ?_ ?_ rfl rfl (any_of HT_.out (by kernel_rfl)) (Or.inl ⟨by rfl, ?_⟩) ?_ ?_
 rotate_left 2
 ·intro w'
  go_simp
  with_reducible rfl
 ·simp only [seval]
  rfl
 refine tk 1 4 ?_ ?_ rfl rfl (take_ofW HT_.out HW_.out (by kernel_rfl)) (Or.inl ⟨by rfl, ?_⟩) hHeld ?_ ?_
 rotate_left 2
 ·rintro w' ⟨s0, s1, s2, s3⟩
  go_simp
  with_reducible rfl
 ·simp only [seval]
  rfl
 refine tk 3 6 ?_ ?_ rfl rfl (take_ofW HT_.out HW_.out (by kernel_rfl)) (Or.inl ⟨by rfl, ?_⟩) hHeld ?_ ?_
 rotate_left 2
 ·rintro w' ⟨s0, s1, s2, s3⟩
  go_simp
  with_reducible rfl
 ·simp only [seval]
  rfl
 refine tk 5 8 ?_ ?_ rfl rfl (take_ofW HT_.out HW_.out (by kernel_rfl)) (Or.inl ⟨by rfl, ?_⟩) hHeld ?_ ?_
 rotate_left 2
 ·rintro w' ⟨s0, s1, s2, s3⟩
  go_simp
  with_reducible rfl
 ·simp only [seval]
  rfl
 refine tk 7 10 ?_ ?_ rfl rfl (take_ofW HT_.out HW_.out (by kernel_rfl)) (Or.inl ⟨by rfl, ?_⟩) hHeld ?_ ?_
 rotate_left 2
 ·rintro w' ⟨s0, s1, s2, s3⟩
  go_simp
  with_reducible rfl
 ·simp only [seval]
  rfl
 refine one_ (i := 8) (N := some 11) #[true, true, true, true, true, true, true, true, true, false, false] rfl rfl (one_of HT_.out (by kernel_rfl)) (by decide) (fun K hK => ?_)
 refine goes_ Try.func129 (by kernel_rfl) rfl #[.slice A0_3 l0_3.length c0_3] (by rfl) rfl rfl (by (try simp only [bitvec_to_nat]); rfl) ?_
 with_reducible refine (spec_copyInts.calls _ _ l0_3 tz0 _ ?side1 ?side2 A2.out).mono ?_
 (case side1 => repeat (exact (Kd.C_below HR0_3.out HB.out)))
 (case side2 => exact HC0_3.out)
 rintro e w6 ⟨vz0, rfl, ho0, hb⟩
 refine ⟨_, rfl, ?_⟩
 have HOz0 := mk (Kd.R_lower ho0 (below_size HB.out))
 replace BKz0 := mk (blk_below BKz0.out hb)
 replace BKz1 := mk (blk_below BKz1.out hb)
 replace HB := mk (below_step HB.out hb)
 (try clear hb)
 (try clear ho0)
 obtain ⟨Ao7, co7, eo7⟩ := Kd.R_slice HOz0.out
 (subst eo7)
 refine hK.out _ _ ⟨blk_cell BKz0.out 0, blk_cell BKz0.out 1, blk_cell BKz0.out 2, blk_cell BKz0.out 3⟩ (fun hHeld => ?_)
 clear hK K
 refine norm_ (a' := ?_) ?_ ?_
 rotate_left
 ·show Act.put _ (some 11) _ = _
  simp only [seval]
  rfl
 refine pu 9 12 ?_ ?_ rfl rfl (any_of HT_.out (by kernel_rfl)) (Or.inl ⟨by rfl, ?_⟩) ?_ ?_
 rotate_left 2
 ·intro w'
  go_simp
  with_reducible rfl
 ·simp only [seval]
  rfl
 refine one_ (i := 10) (N := none) #[true, true, true, true, true, true, true, true, true, true, true] rfl rfl (one_of HT_.out (by kernel_rfl)) (by decide) (fun K hK => ?_)
 obtain ⟨hs8, -, -, -, hfs8, -⟩ := c4 BKz1.out
 have hns8_0 := NBz0.out
 have hms8_0 := NBz1.out
 obtain ⟨-, hs9, -, -, -, hfs9, -⟩ := c4 BKz1.out
 have hns9_0 := NBz0.out
 have hms9_0 := NBz1.out
 obtain ⟨-, -, hs10, -, -, -, hfs10, -⟩ := c4 BKz1.out
 have hns10_0 := NBz0.out
 have hms10_0 := NBz1.out
 obtain ⟨-, -, -, hs11, -, -, -, hfs11⟩ := c4 BKz1.out
 have hns11_0 := NBz0.out
 have hms11_0 := NBz1.out
 refine skip_ (w1 := ?_) (by rfl) rfl ?_ ?_
 rotate_left
 ·go_simp
  rfl
 refine hK.out _ _ ⟨((cell_far (p := ⟨gbz0, _, none⟩) NBz0.out _).trans (((cell_far (p := ⟨gbz0, _, none⟩) NBz0.out _).trans (((cell_far (p := ⟨gbz0, _, none⟩) NBz0.out _).trans (((cell_far (p := ⟨gbz0, _, none⟩) NBz0.out _).trans hHeld.1))))))), ((cell_far (p := ⟨gbz0, _, none⟩) NBz0.out _).trans (((cell_far (p := ⟨gbz0, _, none⟩) NBz0.out _).trans (((cell_far (p := ⟨gbz0, _, none⟩) NBz0.out _).trans (((cell_far (p := ⟨gbz0, _, none⟩) NBz0.out _).trans hHeld.2.1))))))), ((cell_far (p := ⟨gbz0, _, none⟩) NBz0.out _).trans (((cell_far (p := ⟨gbz0, _, none⟩) NBz0.out _).trans (((cell_far (p := ⟨gbz0, _, none⟩) NBz0.out _).trans (((cell_far (p := ⟨gbz0, _, none⟩) NBz0.out _).trans hHeld.2.2.1))))))), ((cell_far (p := ⟨gbz0, _, none⟩) NBz0.out _).trans (((cell_far (p := ⟨gbz0, _, none⟩) NBz0.out _).trans (((cell_far (p := ⟨gbz0, _, none⟩) NBz0.out _).trans (((cell_far (p := ⟨gbz0, _, none⟩) NBz0.out _).trans hHeld.2.2.2)))))))⟩ (fun hHeld => ?_)
 clear hK K
 refine done_ (done_of HT_.out (by kernel_rfl)) ?_
 try go_wp2
 refine bodyPost_ret (results_cell_row rfl _ _ gbz0 27 #[.int .i64 a0_0, .int .i64 a0_1, .int .i64 a0_2, .slice Ao7 tz0.length co7] (0, 0) _ rfl (by refine blk_put (cs := #[.int .i64 a0_0, .int .i64 a0_1, .int .i64 a0_2, .slice none 0 0]) ?_ 3 _ rfl; refine blk_put (cs := #[.int .i64 a0_0, .int .i64 a0_1, .int .i64 0, .slice none 0 0]) ?_ 2 _ rfl; refine blk_put (cs := #[.int .i64 a0_0, .int .i64 0, .int .i64 0, .slice none 0 0]) ?_ 1 _ rfl; refine blk_put (cs := #[.int .i64 0, .int .i64 0, .int .i64 0, .slice none 0 0]) ?_ 0 _ rfl; exact BKz1.out) Try.underlying27 rfl (by kernel_rfl)) rfl ?_
 exact ⟨_, by rfl, by exact Kd.R_mono (Kd.R_far (p := ⟨gbz0, 3, none⟩) (Kd.R_far (p := ⟨gbz0, 2, none⟩) (Kd.R_far (p := ⟨gbz0, 1, none⟩) (Kd.R_far (p := ⟨gbz0, 0, none⟩) (Kd.R_types HOz0.out BKz1.out (by decide)) (fun _ hk => hk.2) (.int .i64 a0_0)) (fun _ hk => hk.2) (.int .i64 a0_1)) (fun _ hk => hk.2) (.int .i64 a0_2)) (fun _ hk => hk.2) (.slice Ao7 tz0.length co7)) (fun _ hk => trivial), by repeat (with_reducible first | exact HB.out | refine below_set ?_ GEz0.out)⟩


def spec_validBox.f (a0_0 : Int) (a0_1 : Int) (a0_2 : Int) (l0_3 : List Int) (a1_0 : Int) (a1_1 : Int) (a1_2 : Int) (a1_3 : Int) : Option Bool := (spec_inRange.f a1_0 0 (wrap64 (a0_0 - 1))).bind fun tz3 => (if tz3 = true then ((spec_inRange.f a1_1 0 (wrap64 (a0_1 - 1))).bind fun tz2 => (if tz2 = true then ((spec_inRange.f a1_2 1 (wrap64 (a0_0 - a1_0))).bind fun tz1 => (if tz1 = true then ((spec_inRange.f a1_3 1 (wrap64 (a0_1 - a1_1))).bind fun tz0 => (some tz0)) else (some false))) else (some false))) else (some false))
theorem spec_validBox.calls (a0_0 : Int) (a0_1 : Int) (a0_2 : Int) (A0_3 : Option Addr) (c0_3 : Nat) (l0_3 : List Int) (a1_0 : Int) (a1_1 : Int) (a1_2 : Int) (a1_3 : Int) (r : Bool) (w : World) (hr0_3 : Kd.C (Kd.int .i64) w A0_3 l0_3.length l0_3) (hc0_3 : l0_3.length ≤ c0_3) (h : spec_validBox.f a0_0 a0_1 a0_2 l0_3 a1_0 a1_1 a1_2 a1_3 = some r) :
  Calls Try.prog 121 #[.agg #[.int .i64 a0_0, .int .i64 a0_1, .int .i64 a0_2, .slice A0_3 l0_3.length c0_3], .agg #[.int .i64 a1_0, .int .i64 a1_1, .int .i64 a1_2, .int .i64 a1_3]] w fun e w' => e = .returned (.bool r) ∧ Below w.heap.size w w' := by
 have hu27 := Try.underlying27
 have hu47 := Try.underlying47
 have HR0_3 := mk hr0_3
 have HC0_3 := mk hc0_3
 clear hr0_3 hc0_3
 have HB := mk (Below.refl w.heap.size w)
 have H : ((spec_inRange.f a1_0 0 (wrap64 (a0_0 - 1))).bind fun tz3 => (if tz3 = true then ((spec_inRange.f a1_1 0 (wrap64 (a0_1 - 1))).bind fun tz2 => (if tz2 = true then ((spec_inRange.f a1_2 1 (wrap64 (a0_0 - a1_0))).bind fun tz1 => (if tz1 = true then ((spec_inRange.f a1_3 1 (wrap64 (a0_1 - a1_1))).bind fun tz0 => (some tz0)) else (some false))) else (some false))) else (some false))) = some r := h
 clear h
 replace H := Option.bind_eq_some_iff.mp H
 obtain ⟨tz3, A30, H⟩ := H
 replace H : (if tz3 = true then ((spec_inRange.f a1_1 0 (wrap64 (a0_1 - 1))).bind fun tz2 => (if tz2 = true then ((spec_inRange.f a1_2 1 (wrap64 (a0_0 - a1_0))).bind fun tz1 => (if tz1 = true then ((spec_inRange.f a1_3 1 (wrap64 (a0_1 - a1_1))).bind fun tz0 => (some tz0)) else (some false))) else (some false))) else (some false)) = some r := H
 have A3 := mk A30
 clear A30
 by_cases c4 : tz3 = true
 ·subst c4
  have H1 : ((spec_inRange.f a1_1 0 (wrap64 (a0_1 - 1))).bind fun tz2 => (if tz2 = true then ((spec_inRange.f a1_2 1 (wrap64 (a0_0 - a1_0))).bind fun tz1 => (if tz1 = true then ((spec_inRange.f a1_3 1 (wrap64 (a0_1 - a1_1))).bind fun tz0 => (some tz0)) else (some false))) else (some false))) = some r := by rw [if_pos rfl] at H; exact H
  clear H
  have H := H1
  clear H1
  replace H := Option.bind_eq_some_iff.mp H
  obtain ⟨tz2, A50, H⟩ := H
  replace H : (if tz2 = true then ((spec_inRange.f a1_2 1 (wrap64 (a0_0 - a1_0))).bind fun tz1 => (if tz1 = true then ((spec_inRange.f a1_3 1 (wrap64 (a0_1 - a1_1))).bind fun tz0 => (some tz0)) else (some false))) else (some false)) = some r := H
  have A5 := mk A50
  clear A50
  by_cases c6 : tz2 = true
  ·subst c6
   have H1 : ((spec_inRange.f a1_2 1 (wrap64 (a0_0 - a1_0))).bind fun tz1 => (if tz1 = true then ((spec_inRange.f a1_3 1 (wrap64 (a0_1 - a1_1))).bind fun tz0 => (some tz0)) else (some false))) = some r := by rw [if_pos rfl] at H; exact H
   clear H
   have H := H1
   clear H1
   replace H := Option.bind_eq_some_iff.mp H
   obtain ⟨tz1, A70, H⟩ := H
   replace H : (if tz1 = true then ((spec_inRange.f a1_3 1 (wrap64 (a0_1 - a1_1))).bind fun tz0 => (some tz0)) else (some false)) = some r := H
   have A7 := mk A70
   clear A70
   by_cases c8 : tz1 = true
   ·subst c8
    have H1 : ((spec_inRange.f a1_3 1 (wrap64 (a0_1 - a1_1))).bind fun tz0 => (some tz0)) = some r := by rw [if_pos rfl] at H; exact H
    clear H
    have H := H1
    clear H1
    replace H := Option.bind_eq_some_iff.mp H
    obtain ⟨tz0, A90, H⟩ := H
    replace H : (some tz0) = some r := H
    have A9 := mk A90
    clear A90
    obtain rfl := Option.some.inj H
    go_enter Try.func121, Try.ntmps121
    go_wp2_with (first | ((with_reducible refine gate_dst (N := 2) rfl ?_); refine box_event (by rfl) (N := 2) (by rfl) (cs := #[.int .i64 a0_0, .int .i64 a0_1, .int .i64 a0_2, .slice A0_3 l0_3.length c0_3]) (t := 27) (by go_simp; done) ?_; intro gbz1 hg w10 hbox hb; replace HB := mk (below_step HB.out hb); have BKz0 := mk (hbox); clear hb hbox hg) | ((with_reducible refine gate_dst (N := 3) rfl ?_); refine box_event (by rfl) (N := 3) (by rfl) (cs := #[.int .i64 a1_0, .int .i64 a1_1, .int .i64 a1_2, .int .i64 a1_3]) (t := 47) (by go_simp; done) ?_; intro gbz0 hg w11 hbox hb; replace BKz0 := mk (blk_below BKz0.out hb); replace HB := mk (below_step HB.out hb); have BKz1 := mk (hbox); clear hb hbox hg; obtain ⟨hcz13_0, hcz13_1, hcz13_2, hcz13_3, -⟩ := c4 BKz1.out; have hcz14_0 : w11.cell? ⟨gbz1, 0, none⟩ = some (.int .i64 a0_0) := (blk_cell BKz0.out 0).trans rfl; have hcz14_1 : w11.cell? ⟨gbz1, 1, none⟩ = some (.int .i64 a0_1) := (blk_cell BKz0.out 1).trans rfl) | ((with_reducible refine gate_callee (f := 110) rfl ?_); refine goesL_ (some 10) rfl rfl Try.func110 (by kernel_rfl) rfl #[.int .i64 a1_0, .int .i64 0, .int .i64 (wrap64 (a0_0 - 1))] rfl (by (try simp only [bitvec_to_nat]); rfl) ?_; (with_reducible refine (spec_inRange.calls a1_0 0 (wrap64 (a0_0 - 1)) true _ A3.out).mono ?_); rintro e w' ⟨rfl, ⟨nd, rfl⟩⟩; refine ⟨_, rfl, ?_⟩) | (go_at_call 110; (with_reducible refine (spec_inRange.calls a1_1 0 (wrap64 (a0_1 - 1)) true _ A5.out).mono ?_); rintro e w' ⟨rfl, ⟨nd, rfl⟩⟩) | (go_at_call 110; (with_reducible refine (spec_inRange.calls a1_2 1 (wrap64 (a0_0 - a1_0)) true _ A7.out).mono ?_); rintro e w' ⟨rfl, ⟨nd, rfl⟩⟩) | (go_at_call 110; (with_reducible refine (spec_inRange.calls a1_3 1 (wrap64 (a0_1 - a1_1)) tz0 _ A9.out).mono ?_); rintro e w' ⟨rfl, ⟨nd, rfl⟩⟩))
    go_ret
    exact ⟨by rfl, by repeat (with_reducible first | exact HB.out | apply pw_below_drewN)⟩
   replace c8 := Bool.eq_false_iff.mpr c8
   subst c8
   have H1 : (some false) = some r := by rw [if_neg (show ¬ (false = true) by decide)] at H; exact H
   clear H
   have H := H1
   clear H1
   obtain rfl := Option.some.inj H
   go_enter Try.func121, Try.ntmps121
   go_wp2_with (first | ((with_reducible refine gate_dst (N := 2) rfl ?_); refine box_event (by rfl) (N := 2) (by rfl) (cs := #[.int .i64 a0_0, .int .i64 a0_1, .int .i64 a0_2, .slice A0_3 l0_3.length c0_3]) (t := 27) (by go_simp; done) ?_; intro gbz1 hg w15 hbox hb; replace HB := mk (below_step HB.out hb); have BKz0 := mk (hbox); clear hb hbox hg) | ((with_reducible refine gate_dst (N := 3) rfl ?_); refine box_event (by rfl) (N := 3) (by rfl) (cs := #[.int .i64 a1_0, .int .i64 a1_1, .int .i64 a1_2, .int .i64 a1_3]) (t := 47) (by go_simp; done) ?_; intro gbz0 hg w16 hbox hb; replace BKz0 := mk (blk_below BKz0.out hb); replace HB := mk (below_step HB.out hb); have BKz1 := mk (hbox); clear hb hbox hg; obtain ⟨hcz18_0, hcz18_1, hcz18_2, -⟩ := c4 BKz1.out; have hcz19_0 : w16.cell? ⟨gbz1, 0, none⟩ = some (.int .i64 a0_0) := (blk_cell BKz0.out 0).trans rfl; have hcz19_1 : w16.cell? ⟨gbz1, 1, none⟩ = some (.int .i64 a0_1) := (blk_cell BKz0.out 1).trans rfl) | ((with_reducible refine gate_callee (f := 110) rfl ?_); refine goesL_ (some 10) rfl rfl Try.func110 (by kernel_rfl) rfl #[.int .i64 a1_0, .int .i64 0, .int .i64 (wrap64 (a0_0 - 1))] rfl (by (try simp only [bitvec_to_nat]); rfl) ?_; (with_reducible refine (spec_inRange.calls a1_0 0 (wrap64 (a0_0 - 1)) true _ A3.out).mono ?_); rintro e w' ⟨rfl, ⟨nd, rfl⟩⟩; refine ⟨_, rfl, ?_⟩) | (go_at_call 110; (with_reducible refine (spec_inRange.calls a1_1 0 (wrap64 (a0_1 - 1)) true _ A5.out).mono ?_); rintro e w' ⟨rfl, ⟨nd, rfl⟩⟩) | (go_at_call 110; (with_reducible refine (spec_inRange.calls a1_2 1 (wrap64 (a0_0 - a1_0)) false _ A7.out).mono ?_); rintro e w' ⟨rfl, ⟨nd, rfl⟩⟩))
   go_ret
   exact ⟨by rfl, by repeat (with_reducible first | exact HB.out | apply pw_below_drewN)⟩
  replace c6 := Bool.eq_false_iff.mpr c6
  subst c6
  have H1 : (some false) = some r := by rw [if_neg (show ¬ (false = true) by decide)] at H; exact H
  clear H
  have H := H1
  clear H1
  obtain rfl := Option.some.inj H
  go_enter Try.func121, Try.ntmps121
  go_wp2_with (first | ((with_reducible refine gate_dst (N := 2) rfl ?_); refine box_event (by rfl) (N := 2) (by rfl) (cs := #[.int .i64 a0_0, .int .i64 a0_1, .int .i64 a0_2, .slice A0_3 l0_3.length c0_3]) (t := 27) (by go_simp; done) ?_; intro gbz1 hg w20 hbox hb; replace HB := mk (below_step HB.out hb); have BKz0 := mk (hbox); clear hb hbox hg) | ((with_reducible refine gate_dst (N := 3) rfl ?_); refine box_event (by rfl) (N := 3) (by rfl) (cs := #[.int .i64 a1_0, .int .i64 a1_1, .int .i64 a1_2, .int .i64 a1_3]) (t := 47) (by go_simp; done) ?_; intro gbz0 hg w21 hbox hb; replace BKz0 := mk (blk_below BKz0.out hb); replace HB := mk (below_step HB.out hb); have BKz1 := mk (hbox); clear hb hbox hg; obtain ⟨hcz23_0, hcz23_1, -⟩ := c4 BKz1.out; have hcz24_0 : w21.cell? ⟨gbz1, 0, none⟩ = some (.int .i64 a0_0) := (blk_cell BKz0.out 0).trans rfl; have hcz24_1 : w21.cell? ⟨gbz1, 1, none⟩ = some (.int .i64 a0_1) := (blk_cell BKz0.out 1).trans rfl) | ((with_reducible refine gate_callee (f := 110) rfl ?_); refine goesL_ (some 10) rfl rfl Try.func110 (by kernel_rfl) rfl #[.int .i64 a1_0, .int .i64 0, .int .i64 (wrap64 (a0_0 - 1))] rfl (by (try simp only [bitvec_to_nat]); rfl) ?_; (with_reducible refine (spec_inRange.calls a1_0 0 (wrap64 (a0_0 - 1)) true _ A3.out).mono ?_); rintro e w' ⟨rfl, ⟨nd, rfl⟩⟩; refine ⟨_, rfl, ?_⟩) | (go_at_call 110; (with_reducible refine (spec_inRange.calls a1_1 0 (wrap64 (a0_1 - 1)) false _ A5.out).mono ?_); rintro e w' ⟨rfl, ⟨nd, rfl⟩⟩))
  go_ret
  exact ⟨by rfl, by repeat (with_reducible first | exact HB.out | apply pw_below_drewN)⟩
 replace c4 := Bool.eq_false_iff.mpr c4
 subst c4
 have H1 : (some false) = some r := by rw [if_neg (show ¬ (false = true) by decide)] at H; exact H
 clear H
 have H := H1
 clear H1
 obtain rfl := Option.some.inj H
 go_enter Try.func121, Try.ntmps121
 go_wp2_with (first | ((with_reducible refine gate_dst (N := 2) rfl ?_); refine box_event (by rfl) (N := 2) (by rfl) (cs := #[.int .i64 a0_0, .int .i64 a0_1, .int .i64 a0_2, .slice A0_3 l0_3.length c0_3]) (t := 27) (by go_simp; done) ?_; intro gbz1 hg w25 hbox hb; replace HB := mk (below_step HB.out hb); have BKz0 := mk (hbox); clear hb hbox hg) | ((with_reducible refine gate_dst (N := 3) rfl ?_); refine box_event (by rfl) (N := 3) (by rfl) (cs := #[.int .i64 a1_0, .int .i64 a1_1, .int .i64 a1_2, .int .i64 a1_3]) (t := 47) (by go_simp; done) ?_; intro gbz0 hg w26 hbox hb; replace BKz0 := mk (blk_below BKz0.out hb); replace HB := mk (below_step HB.out hb); have BKz1 := mk (hbox); clear hb hbox hg; have hcz28_0 : w26.cell? ⟨gbz0, 0, none⟩ = some (.int .i64 a1_0) := (blk_cell BKz1.out 0).trans rfl; have hcz29_0 : w26.cell? ⟨gbz1, 0, none⟩ = some (.int .i64 a0_0) := (blk_cell BKz0.out 0).trans rfl) | ((with_reducible refine gate_callee (f := 110) rfl ?_); refine goesL_ (some 10) rfl rfl Try.func110 (by kernel_rfl) rfl #[.int .i64 a1_0, .int .i64 0, .int .i64 (wrap64 (a0_0 - 1))] rfl (by (try simp only [bitvec_to_nat]); rfl) ?_; (with_reducible refine (spec_inRange.calls a1_0 0 (wrap64 (a0_0 - 1)) false _ A3.out).mono ?_); rintro e w' ⟨rfl, ⟨nd, rfl⟩⟩; refine ⟨_, rfl, ?_⟩))
 go_ret
 exact ⟨by rfl, by repeat (with_reducible first | exact HB.out | apply pw_below_drewN)⟩


def spec_onImage.f (a0_0 : Int) (a0_1 : Int) (a0_2 : Int) (l0_3 : List Int) (a1 : Int) (a2 : Int) : Option (Bool) := (spec_inRange.f a1 0 (wrap64 (a0_0 - 1))).bind fun t145002 => (if t145002 = true then ((spec_inRange.f a2 0 (wrap64 (a0_1 - 1))).bind fun t145003 => (some t145003)) else (some false))
theorem spec_onImage.calls (a0_0 : Int) (a0_1 : Int) (a0_2 : Int) (A0_3 : Option Addr) (c0_3 : Nat) (l0_3 : List Int) (a1 : Int) (a2 : Int) (r : Bool) (w : World) (hr0_3 : Kd.C (Kd.int .i64) w A0_3 l0_3.length l0_3) (hc0_3 : l0_3.length ≤ c0_3) (h : spec_onImage.f a0_0 a0_1 a0_2 l0_3 a1 a2 = some r) :
  Calls Try.prog 144 #[.agg #[.int .i64 a0_0, .int .i64 a0_1, .int .i64 a0_2, .slice A0_3 l0_3.length c0_3], .int .i64 a1, .int .i64 a2] w fun e w' => e = .returned (.bool r) ∧ Below w.heap.size w w' := by
 have hu27 := Try.underlying27
 have HR0_3 := mk hr0_3
 have HC0_3 := mk hc0_3
 clear hr0_3 hc0_3
 have HB := mk (Below.refl w.heap.size w)
 have H : ((spec_inRange.f a1 0 (wrap64 (a0_0 - 1))).bind fun t145002 => (if t145002 = true then ((spec_inRange.f a2 0 (wrap64 (a0_1 - 1))).bind fun t145003 => (some t145003)) else (some false))) = some r := h
 clear h
 replace H := Option.bind_eq_some_iff.mp H
 obtain ⟨t145002, A40, H⟩ := H
 replace H : (if t145002 = true then ((spec_inRange.f a2 0 (wrap64 (a0_1 - 1))).bind fun t145003 => (some t145003)) else (some false)) = some r := H
 have A4 := mk A40
 clear A40
 by_cases c5 : t145002 = true
 ·subst c5
  have H1 : ((spec_inRange.f a2 0 (wrap64 (a0_1 - 1))).bind fun t145003 => (some t145003)) = some r := by rw [if_pos rfl] at H; exact H
  clear H
  have H := H1
  clear H1
  replace H := Option.bind_eq_some_iff.mp H
  obtain ⟨t145003, A60, H⟩ := H
  replace H : (some t145003) = some r := H
  have A6 := mk A60
  clear A60
  obtain rfl := Option.some.inj H
  go_enter Try.func144, Try.ntmps144
  go_wp2_with (first | ((with_reducible refine gate_dst (N := 3) rfl ?_); refine box_event ?hg (N := 3) ?hd (cs := #[.int .i64 a0_0, .int .i64 a0_1, .int .i64 a0_2, .slice A0_3 l0_3.length c0_3]) (t := 27) ?hr ?_; (case hd => rfl); (case hg => rfl); (case hr => first | (go_simp; done) | (go_simp; rfl)); intro gb145001 hg w7 hbox hb; have n0_ := mk (below_step (by repeat (first | (with_reducible first | exact HB.out | apply below_alloc | apply pw_below_drewN | apply below_drew1) | exact HB.out)) hb); have n1_ := mk (hbox); have n2_ := mk ((by rw [hg]; exact (below_size (by repeat (first | (with_reducible first | exact HB.out | apply below_alloc | apply pw_below_drewN | apply below_drew1) | exact HB.out))) : w.heap.size ≤ gb145001)); have n3_ := mk ((by rw [hg]; exact (below_size (by repeat (first | (with_reducible first | exact HB.out | apply below_alloc | apply pw_below_drewN | apply below_drew1) | exact HB.out))) : w.heap.size ≤ gb145001)); clear HB; have HB := n0_; have BK145001 := n1_; have GW145001 := n2_; have GE145001 := n3_; clear n0_ n1_ n2_ n3_; clear hb hbox hg; have hcz8_0 : w7.cell? ⟨gb145001, 0, none⟩ = some (.int .i64 a0_0) := (blk_cell BK145001.out 0).trans rfl; have hcz8_1 : w7.cell? ⟨gb145001, 1, none⟩ = some (.int .i64 a0_1) := (blk_cell BK145001.out 1).trans rfl; have hcz8_2 : w7.cell? ⟨gb145001, 2, none⟩ = some (.int .i64 a0_2) := (blk_cell BK145001.out 2).trans rfl; have hcz8_3 : w7.cell? ⟨gb145001, 3, none⟩ = some (.slice A0_3 l0_3.length c0_3) := (blk_cell BK145001.out 3).trans rfl; have hfz8_0 := blk_frozen BK145001.out 0; have hfz8_1 := blk_frozen BK145001.out 1; have hfz8_2 := blk_frozen BK145001.out 2; have hfz8_3 := blk_frozen BK145001.out 3) | ((with_reducible refine gate_callee (f := 110) rfl ?_); refine goesL_ (some 11) rfl rfl Try.func110 (by kernel_rfl) rfl #[.int .i64 a1, .int .i64 0, .int .i64 (wrap64 (a0_0 - 1))] rfl (by (try simp only [bitvec_to_nat]); first | done | rfl | (simp only [List.length_drop, List.length_take]; rfl)) ?_; (with_reducible refine (spec_inRange.calls a1 0 (wrap64 (a0_0 - 1)) true _ A4.out).mono ?_); rintro e w' ⟨rfl, ⟨nd, rfl⟩⟩; refine ⟨_, rfl, ?_⟩) | (go_at_call 110; (with_reducible refine (spec_inRange.calls a2 0 (wrap64 (a0_1 - 1)) t145003 _ A6.out).mono ?_); rintro e w' ⟨rfl, ⟨nd, rfl⟩⟩))
  go_ret
  exact ⟨by first | rfl | (simp [errW_none, errW_some] <;> rfl) | (simp [*, errW_none, errW_some] <;> rfl), by repeat (first | (with_reducible first | exact HB.out | apply below_alloc | apply pw_below_drewN | apply below_drew1 | refine below_set ?_ GE145001.out) | exact HB.out)⟩
 ·replace c5 := Bool.eq_false_iff.mpr c5
  subst c5
  have H1 : (some false) = some r := by rw [if_neg (show ¬ (false = true) by decide)] at H; exact H
  clear H
  have H := H1
  clear H1
  obtain rfl := Option.some.inj H
  go_enter Try.func144, Try.ntmps144
  go_wp2_with (first | ((with_reducible refine gate_dst (N := 3) rfl ?_); refine box_event ?hg (N := 3) ?hd (cs := #[.int .i64 a0_0, .int .i64 a0_1, .int .i64 a0_2, .slice A0_3 l0_3.length c0_3]) (t := 27) ?hr ?_; (case hd => rfl); (case hg => rfl); (case hr => first | (go_simp; done) | (go_simp; rfl)); intro gb145001 hg w9 hbox hb; have n0_ := mk (below_step (by repeat (first | (with_reducible first | exact HB.out | apply below_alloc | apply pw_below_drewN | apply below_drew1) | exact HB.out)) hb); have n1_ := mk (hbox); have n2_ := mk ((by rw [hg]; exact (below_size (by repeat (first | (with_reducible first | exact HB.out | apply below_alloc | apply pw_below_drewN | apply below_drew1) | exact HB.out))) : w.heap.size ≤ gb145001)); have n3_ := mk ((by rw [hg]; exact (below_size (by repeat (first | (with_reducible first | exact HB.out | apply below_alloc | apply pw_below_drewN | apply below_drew1) | exact HB.out))) : w.heap.size ≤ gb145001)); clear HB; have HB := n0_; have BK145001 := n1_; have GW145001 := n2_; have GE145001 := n3_; clear n0_ n1_ n2_ n3_; clear hb hbox hg; have hcz10_0 : w9.cell? ⟨gb145001, 0, none⟩ = some (.int .i64 a0_0) := (blk_cell BK145001.out 0).trans rfl; have hcz10_1 : w9.cell? ⟨gb145001, 1, none⟩ = some (.int .i64 a0_1) := (blk_cell BK145001.out 1).trans rfl; have hcz10_2 : w9.cell? ⟨gb145001, 2, none⟩ = some (.int .i64 a0_2) := (blk_cell BK145001.out 2).trans rfl; have hcz10_3 : w9.cell? ⟨gb145001, 3, none⟩ = some (.slice A0_3 l0_3.length c0_3) := (blk_cell BK145001.out 3).trans rfl; have hfz10_0 := blk_frozen BK145001.out 0; have hfz10_1 := blk_frozen BK145001.out 1; have hfz10_2 := blk_frozen BK145001.out 2; have hfz10_3 := blk_frozen BK145001.out 3) | ((with_reducible refine gate_callee (f := 110) rfl ?_); refine goesL_ (some 11) rfl rfl Try.func110 (by kernel_rfl) rfl #[.int .i64 a1, .int .i64 0, .int .i64 (wrap64 (a0_0 - 1))] rfl (by (try simp only [bitvec_to_nat]); first | done | rfl | (simp only [List.length_drop, List.length_take]; rfl)) ?_; (with_reducible refine (spec_inRange.calls a1 0 (wrap64 (a0_0 - 1)) false _ A4.out).mono ?_); rintro e w' ⟨rfl, ⟨nd, rfl⟩⟩; refine ⟨_, rfl, ?_⟩))
  go_ret
  exact ⟨by first | rfl | (simp [errW_none, errW_some] <;> rfl) | (simp [*, errW_none, errW_some] <;> rfl), by repeat (first | (with_reducible first | exact HB.out | apply below_alloc | apply pw_below_drewN | apply below_drew1 | refine below_set ?_ GE145001.out) | exact HB.out)⟩


def spec_setPixel.l0 : Nat → Int → Int → List Int → Int → Int → Int → Int → List Int → Option (List Int)
 | 0, _, _, _, _, _, _, _, _ => none
 | k + 1, x1, x2, x3, x8, xz2, xz4, xz1, xz3 => if x8 < xz1 then (if 0 ≤ x8 then (if x8 < (x3.length : Int) then (if 0 ≤ (wrap64 ((wrap64 ((wrap64 ((wrap64 (x2 * xz2)) + x1)) * xz1)) + x8)) then (if (wrap64 ((wrap64 ((wrap64 ((wrap64 (x2 * xz2)) + x1)) * xz1)) + x8)) < (xz3.length : Int) then (spec_setPixel.l0 k x1 x2 x3 (wrap64 (x8 + 1)) xz2 xz4 xz1 (xz3.set ((wrap64 ((wrap64 ((wrap64 ((wrap64 (x2 * xz2)) + x1)) * xz1)) + x8)) : Int).toNat (rd x3 x8))) else none) else none) else none) else none) else (some xz3)
def spec_setPixel.f (k : Nat) (a0_0 : Int) (a0_1 : Int) (a0_2 : Int) (l0_3 : List Int) (a1 : Int) (a2 : Int) (l3 : List Int) : Option (List Int) := spec_setPixel.l0 k a1 a2 l3 0 a0_0 a0_1 a0_2 l0_3
def spec_setPixel.T4 : Bool × List (List Nat × List Nat) := (true, [([], []), ([0], [0]), ([], []), ([], []), ([3], [3]), ([2, 4], [2, 4]), ([], []), ([5, 6], [5, 6]), ([], []), ([8], [8]), ([7, 9], [7, 9]), ([], []), ([10, 11], [10, 11]), ([], []), ([], []), ([13, 14], [13, 14]), ([15], [15]), ([1, 12, 0, 1, 2, 3, 4, 5, 6, 7, 8, 9, 10, 11, 12, 13, 14, 15, 16], [1, 12]), ([17, 16, 0, 1, 2, 3, 4, 5, 6, 7, 8, 9, 10, 11, 12, 13, 14, 15, 16], [16, 17])])
def spec_setPixel.B4 : List Nat := [0, 1, 0, 0, 8, 28, 0, 124, 0, 256, 1020, 0, 4092, 0, 0, 24576, 57344, 131071, 262143]
theorem spec_setPixel.tab4 : rtab .any (opsOf Try.f148 4) = spec_setPixel.T4 := by kernel_rfl
theorem spec_setPixel.bits4 : waitsOk spec_setPixel.T4.2 spec_setPixel.B4 = true := by kernel_rfl
theorem spec_setPixel.calls (k : Nat) (a0_0 : Int) (a0_1 : Int) (a0_2 : Int) (P0_3_ : Nat → Prop) (u9000_ : Value) (l0_3 : List Int) (a1 : Int) (a2 : Int) (A3 : Option Addr) (c3 : Nat) (l3 : List Int) (r : List Int) (w0 w : World) (hB : Below w0.heap.size w0 w) (ho0_3 : Kd.R (Kd.int .i64) 3 w w0.heap.size P0_3_ u9000_ l0_3) (hr3 : ∀ W_, Kept w W_ (fun k_ => P0_3_ k_) → Kd.C (Kd.int .i64) W_ A3 l3.length l3) (hc3 : l3.length ≤ c3) (h : spec_setPixel.f k a0_0 a0_1 a0_2 l0_3 a1 a2 l3 = some r) :
  Calls Try.prog 148 #[.agg #[.int .i64 a0_0, .int .i64 a0_1, .int .i64 a0_2, u9000_], .int .i64 a1, .int .i64 a2, .slice A3 l3.length c3] w fun e w' => e = .returned (.tuple #[]) ∧ Kd.R (Kd.int .i64) 3 w' w0.heap.size (fun k_ => (P0_3_ k_ ∨ w.heap.size ≤ k_)) u9000_ r ∧ Below w0.heap.size w0 w' ∧ Kept w w' (fun k_ => P0_3_ k_) := by
 have hu27 := Try.underlying27
 have HO0_3 := mk (show Kd.R (Kd.int .i64) 3 w w0.heap.size (fun k_ => (P0_3_ k_ ∨ w.heap.size ≤ k_)) u9000_ l0_3 from Kd.R_mono ho0_3 (fun k_ hk => (.inl hk)))
 have HR3 := mk hr3
 have HC3 := mk hc3
 clear hr3 hc3
 have HK := mk (Kept.refl w (fun k_ => P0_3_ k_))
 have HW0 := mk hB.size
 have HB := mk hB
 clear hB
 have H : (spec_setPixel.l0 k a1 a2 l3 0 a0_0 a0_1 a0_2 l0_3) = some r := h
 clear h
 have H' := mk H
 clear H
 obtain ⟨Ao5, co5, eo5⟩ := Kd.R_slice HO0_3.out
 subst eo5
 go_enter Try.func148, Try.ntmps148
 go_wp2_with (first | ((with_reducible refine gate_dst (N := 4) rfl ?_); refine box_event (by rfl) (N := 4) (by rfl) (cs := #[.int .i64 a0_0, .int .i64 a0_1, .int .i64 a0_2, .slice Ao5 l0_3.length co5]) (t := 27) (by go_simp; done) ?_; intro gbz0 hg w6 hbox hb; replace HO0_3 := mk (Kd.R_below HO0_3.out hb); replace HK := mk (Kept.below (S := (fun k_ => P0_3_ k_)) HK.out hb); replace HB := mk (below_step HB.out hb); have BKz0 := mk (hbox); clear hb hbox hg))
 go_loopg [8] k (fun kq v8 w' => ∃ (x8_1 : Int) (xz0 : List Int), v8 = .int .i64 x8_1 ∧ Aside0 (spec_setPixel.l0 kq a1 a2 l3 x8_1 a0_0 a0_1 a0_2 xz0 = some r) ∧ Aside0 (kq ≤ k) ∧ Aside0 (Kd.R (Kd.int .i64) 3 w' w0.heap.size (fun k_ => (P0_3_ k_ ∨ w.heap.size ≤ k_)) (.slice Ao5 l0_3.length co5) xz0) ∧ Aside0 (w'.heap[gbz0]? = some (.cells #[.int .i64 a0_0, .int .i64 a0_1, .int .i64 a0_2, (.slice Ao5 l0_3.length co5)] 27 (0, 0))) ∧ Aside0 (Kept w w' (fun k_ => P0_3_ k_)) ∧ Aside0 (Below w0.heap.size w0 w'))
 case atStart => exact ⟨(0), (l0_3), (by rfl), H', ⟨Nat.le_refl _⟩, HO0_3, BKz0, HK, HB⟩
 case round =>
  clear H'
  obtain ⟨x8_1, xz0, rfl, HA, HK1, HOz0, BKz0, HK, HB⟩ := hrel
  have hl149002003_1 := (Kd.R_reads' HOz0.out).1
  rw [hl149002003_1] at HOz0
  (try simp only [hl149002003_1])
  (try simp only [hl149002003_1] at BKz0)
  cases gk with
  | zero => exact absurd HA.out (by simp [spec_setPixel.l0])
  | succ k1 =>
   have H := HA.out
   clear HA
   simp only [spec_setPixel.l0] at H
   by_cases c7 : x8_1 < a0_2
   ·rw [if_pos c7] at H
    have c7b0 : decide (x8_1 < a0_2) = true := decide_eq_true c7
    clear c7
    by_cases c8 : 0 ≤ x8_1
    ·rw [if_pos c8] at H
     have c8b0 : decide (0 ≤ x8_1) = true := decide_eq_true c8
     clear c8
     by_cases c9 : x8_1 < (l3.length : Int)
     ·rw [if_pos c9] at H
      have c9b0 : decide (x8_1 < (l3.length : Int)) = true := decide_eq_true c9
      clear c9
      obtain ⟨ji10, hji10⟩ : ∃ j_ : Int, (wrap64 ((wrap64 ((wrap64 ((wrap64 (a2 * a0_0)) + a1)) * a0_2)) + x8_1)) = j_ := ⟨_, rfl⟩
      replace H : (if 0 ≤ ji10 then (if ji10 < (xz0.length : Int) then (spec_setPixel.l0 k1 a1 a2 l3 (wrap64 (x8_1 + 1)) a0_0 a0_1 a0_2 (xz0.set (ji10 : Int).toNat (rd l3 x8_1))) else none) else none) = some r := by (rw [hji10] at H; exact H)
      have hji10w : (IntKind.i64.wrap ((wrap64 ((wrap64 ((wrap64 (a2 * a0_0)) + a1)) * a0_2)) + x8_1)) = ji10 := (i64_w _).trans hji10
      by_cases c11 : 0 ≤ (ji10)
      ·rw [if_pos c11] at H
       have c11b0 : decide (0 ≤ ji10) = true := decide_eq_true c11
       clear c11
       by_cases c12 : ji10 < (xz0.length : Int)
       ·rw [if_pos c12] at H
        have c12b0 : decide (ji10 < (xz0.length : Int)) = true := decide_eq_true c12
        clear c12
        obtain ⟨yz0, hyz0⟩ : ∃ y_ : List Int, y_ = (xz0.set (ji10 : Int).toNat (rd l3 x8_1)) := ⟨_, rfl⟩
        replace H : (spec_setPixel.l0 k1 a1 a2 l3 (wrap64 (x8_1 + 1)) a0_0 a0_1 a0_2 yz0) = some r := by (rw [hyz0]; with_reducible exact H)
        have Nyz0 := mk hyz0
        clear hyz0
        have H' := mk H
        clear H
        obtain ⟨-, -, hcz14_2, hcz14_3, -⟩ := c4 BKz0.out
        try go_wp2
        replace HOz0 := mk (Kd.R_drew HOz0.out)
        replace BKz0 := mk (blk_drew BKz0.out)
        replace HK := mk (Kept.drew HK.out)
        replace HB := mk (below_drew1 HB.out)
        have p149002 : 0 ≤ (x8_1 : Int) := of_decide_eq_true (by (with_reducible assumption))
        have q149002 : x8_1 < (l3.length : Int) := of_decide_eq_true (by (with_reducible assumption))
        obtain ⟨ad149002, e149002, hx149002_0⟩ := Kd.at_int (Kd.C_kept_now HR3.out HK.out) x8_1 p149002 q149002
        cases e149002
        replace p149002 := eq_true p149002
        replace q149002 := eq_true q149002
        have p13 : 0 ≤ (ji10 : Int) := of_decide_eq_true (by (with_reducible assumption))
        have q13 : (ji10 : Int) < ((xz0.length : Int) : Int) := of_decide_eq_true (by (with_reducible assumption))
        obtain ⟨go13, co13, eo13, gb13, gl13, cl13, HG13⟩ := Kd.R_form HOz0.out (by omega)
        (cases eo13)
        have GB13 := mk gb13
        have GG13 := mk HG13
        clear gb13 gl13 HG13
        have HMgo13 := mk (show (P0_3_ go13 ∨ w.heap.size ≤ go13) from (HOz0.out.1 _ rfl))
        obtain ⟨hx13_0, hf13_0⟩ := Kd.R_celln 0 HOz0.out (ji10 : Int) p13 q13
        replace p13 := eq_true p13
        replace q13 := eq_true q13
        have HP16 := Kd.R_putn HOz0.out (ji10 : Int) (rd l3 x8_1)
        rw [← Nyz0.out] at HP16
        have HQ16 := mk HP16
        clear HP16
        refine start_ (n := 19) (S := fun w' => w'.cell? ⟨gbz0, 0, none⟩ = some (.int .i64 a0_0) ∧ w'.cell? ⟨gbz0, 1, none⟩ = some (.int .i64 a0_1) ∧ w'.cell? ⟨gbz0, 2, none⟩ = some (.int .i64 a0_2) ∧ w'.cell? ⟨gbz0, 3, none⟩ = some (.slice (some ⟨go13, 0, none⟩) xz0.length co5) ∧ w'.cell? (ad149002.add (x8_1).toNat) = some (.int .i64 (rd l3 x8_1))) (ds := [18]) #[false, false, false, false, false, false, false, false, false, false, false, false, false, false, false, false, false, false, false] (by kernel_rfl) rfl rfl ⟨blk_cell BKz0.out 0, blk_cell BKz0.out 1, blk_cell BKz0.out 2, blk_cell BKz0.out 3, (Kd.foot_int (HR3.out _ HK.out) x8_1 (of_eq_true p149002) (of_eq_true q149002))⟩ (fun hHeld => ?_); refine with_tabW spec_setPixel.tab4 spec_setPixel.bits4 (fun HT_ HW_ => ?_)
        generalize wr.drew = w15 at HOz0 BKz0 HK HB GG13 HQ16 hf13_0 hx13_0 hx149002_0 hHeld ⊢
        refine pu 0 15 ?_ ?_ rfl rfl (any_of HT_.out (by kernel_rfl)) (Or.inl ⟨by rfl, ?_⟩) ?_ ?_
        rotate_left 2
        ·intro w'
         go_simp
         with_reducible rfl
        ·simp only [seval]
         rfl
        refine pu 2 17 ?_ ?_ rfl rfl (any_of HT_.out (by kernel_rfl)) (Or.inl ⟨by rfl, ?_⟩) ?_ ?_
        rotate_left 2
        ·intro w'
         go_simp
         with_reducible rfl
        ·simp only [seval]
         rfl
        refine pu 3 18 ?_ ?_ rfl rfl (any_of HT_.out (by kernel_rfl)) (Or.inl ⟨by rfl, ?_⟩) ?_ ?_
        rotate_left 2
        ·intro w'
         go_simp
         with_reducible rfl
        ·simp only [seval]
         rfl
        refine pu 6 21 ?_ ?_ rfl rfl (any_of HT_.out (by kernel_rfl)) (Or.inl ⟨by rfl, ?_⟩) ?_ ?_
        rotate_left 2
        ·intro w'
         go_simp
         with_reducible rfl
        ·simp only [seval]
         rfl
        refine pu 8 23 ?_ ?_ rfl rfl (any_of HT_.out (by kernel_rfl)) (Or.inl ⟨by rfl, ?_⟩) ?_ ?_
        rotate_left 2
        ·intro w'
         go_simp
         with_reducible rfl
        ·simp only [seval]
         rfl
        refine pu 11 26 ?_ ?_ rfl rfl (any_of HT_.out (by kernel_rfl)) (Or.inl ⟨by rfl, ?_⟩) ?_ ?_
        rotate_left 2
        ·intro w'
         go_simp
         with_reducible rfl
        ·simp only [seval]
         rfl
        refine pu 13 28 ?_ ?_ rfl rfl (any_of HT_.out (by kernel_rfl)) (Or.inl ⟨by rfl, ?_⟩) ?_ ?_
        rotate_left 2
        ·intro w'
         go_simp
         with_reducible rfl
        ·simp only [seval]
         rfl
        refine pu 14 29 ?_ ?_ rfl rfl (any_of HT_.out (by kernel_rfl)) (Or.inl ⟨by rfl, ?_⟩) ?_ ?_
        rotate_left 2
        ·intro w'
         go_simp
         with_reducible rfl
        ·simp only [seval]
         rfl
        refine pu 15 30 ?_ ?_ rfl rfl (any_of HT_.out (by kernel_rfl)) (Or.inl ⟨by rfl, ?_⟩) ?_ ?_
        rotate_left 2
        ·intro w'
         go_simp
         with_reducible rfl
        ·simp only [seval]
         rfl
        refine tk 1 16 ?_ ?_ rfl rfl (take_ofW HT_.out HW_.out (by kernel_rfl)) (Or.inl ⟨by rfl, ?_⟩) hHeld ?_ ?_
        rotate_left 2
        ·rintro w' ⟨s0, s1, s2, s3, s4⟩
         go_simp
         with_reducible rfl
        ·simp only [seval]
         rfl
        refine tk 4 19 ?_ ?_ rfl rfl (take_ofW HT_.out HW_.out (by kernel_rfl)) (Or.inl ⟨by rfl, ?_⟩) hHeld ?_ ?_
        rotate_left 2
        ·rintro w' ⟨s0, s1, s2, s3, s4⟩
         go_simp
         with_reducible rfl
        ·simp only [seval]
         rfl
        refine pu 5 20 ?_ ?_ rfl rfl (any_of HT_.out (by kernel_rfl)) (Or.inl ⟨by rfl, ?_⟩) ?_ ?_
        rotate_left 2
        ·intro w'
         go_simp
         with_reducible rfl
        ·simp only [seval]
         rfl
        refine pu 7 22 ?_ ?_ rfl rfl (any_of HT_.out (by kernel_rfl)) (Or.inl ⟨by rfl, ?_⟩) ?_ ?_
        rotate_left 2
        ·intro w'
         go_simp
         with_reducible rfl
        ·simp only [seval]
         rfl
        refine tk 9 24 ?_ ?_ rfl rfl (take_ofW HT_.out HW_.out (by kernel_rfl)) (Or.inl ⟨by rfl, ?_⟩) hHeld ?_ ?_
        rotate_left 2
        ·rintro w' ⟨s0, s1, s2, s3, s4⟩
         go_simp
         with_reducible rfl
        ·simp only [seval]
         rfl
        refine pu 10 25 ?_ ?_ rfl rfl (any_of HT_.out (by kernel_rfl)) (Or.inl ⟨by rfl, ?_⟩) ?_ ?_
        rotate_left 2
        ·intro w'
         go_simp
         with_reducible rfl
        ·simp only [seval]
         rfl
        refine pu 12 27 ?_ ?_ rfl rfl (any_of HT_.out (by kernel_rfl)) (Or.inl ⟨by rfl, ?_⟩) ?_ ?_
        rotate_left 2
        ·intro w'
         go_simp
         with_reducible rfl
        ·simp only [seval]
         rfl
        refine tk 16 31 ?_ ?_ rfl rfl (take_ofW HT_.out HW_.out (by kernel_rfl)) (Or.inl ⟨by rfl, ?_⟩) hHeld ?_ ?_
        rotate_left 2
        ·rintro w' ⟨s0, s1, s2, s3, s4⟩
         go_simp
         with_reducible rfl
        ·simp only [seval]
         rfl
        refine pu 17 32 ?_ ?_ rfl rfl (any_of HT_.out (by kernel_rfl)) (Or.inl ⟨by rfl, ?_⟩) ?_ ?_
        rotate_left 2
        ·intro w'
         go_simp
         with_reducible rfl
        ·simp only [seval]
         rfl
        refine last_ (i := 18) (N := none) #[true, true, true, true, true, true, true, true, true, true, true, true, true, true, true, true, true, true, true] rfl rfl (one_of HT_.out (by kernel_rfl)) (by decide) (fun K hK => ?_)
        refine skip_ (w1 := ?_) (by rfl) rfl ?_ ?_
        rotate_left
        ·go_simp
         rfl
        refine hK.out _ _ ?_
        clear hK K
        refine done_ (done_of HT_.out (by kernel_rfl)) ?_
        try go_wp2
        (try simp only [← hl149002003_1])
        go_roundg k1
        case measure => have := HK1.out; omega
        case rel => exact ⟨(wrap64 (x8_1 + 1)), (yz0), (by rfl), H', ⟨by have := HK1.out; omega⟩, ⟨by (try simp only [hl149002003_1]); exact HQ16.out⟩, ⟨by (try simp only [hl149002003_1]); refine blk_far ?_ (by have h_ := Kd.R_ne HOz0.out BKz0.out (by decide); intro e_; exact h_ (by rw [e_]; rfl)) _; exact BKz0.out⟩, ⟨by repeat (with_reducible first | exact HK.out | refine Kept.setCell ?_ HMgo13.out _)⟩, ⟨by repeat (with_reducible first | exact HB.out | refine below_set ?_ GB13.out)⟩⟩
       rw [if_neg c12] at H
       exact absurd H (by simp)
      rw [if_neg c11] at H
      exact absurd H (by simp)
     rw [if_neg c9] at H
     exact absurd H (by simp)
    rw [if_neg c8] at H
    exact absurd H (by simp)
   rw [if_neg c7] at H
   have c7b0 : decide (x8_1 < a0_2) = false := decide_eq_false c7
   clear c7
   obtain rfl := Option.some.inj H
   have hcz17_2 : wr.cell? ⟨gbz0, 2, none⟩ = some (.int .i64 a0_2) := (blk_cell BKz0.out 2).trans rfl
   go_wp2
   go_end0
   exact ⟨by rfl, HOz0.out, by exact HB.out, by exact HK.out⟩


def spec_pixelAt.f (a0_0 : Int) (a0_1 : Int) (a0_2 : Int) (l0_3 : List Int) (a1 : Int) (a2 : Int) : Option (List Int) := if 0 ≤ (wrap64 ((wrap64 ((wrap64 (a2 * a0_0)) + a1)) * a0_2)) then (if (wrap64 ((wrap64 ((wrap64 (a2 * a0_0)) + a1)) * a0_2)) ≤ (wrap64 ((wrap64 ((wrap64 ((wrap64 (a2 * a0_0)) + a1)) * a0_2)) + a0_2)) then (if (wrap64 ((wrap64 ((wrap64 ((wrap64 (a2 * a0_0)) + a1)) * a0_2)) + a0_2)) ≤ (l0_3.length : Int) then ((spec_copyInts.f ((l0_3.take ((wrap64 ((wrap64 ((wrap64 ((wrap64 (a2 * a0_0)) + a1)) * a0_2)) + a0_2)) : Int).toNat).drop ((wrap64 ((wrap64 ((wrap64 (a2 * a0_0)) + a1)) * a0_2)) : Int).toNat)).bind fun tz0 => (some tz0)) else none) else none) else (none)
theorem spec_pixelAt.calls (a0_0 : Int) (a0_1 : Int) (a0_2 : Int) (A0_3 : Option Addr) (c0_3 : Nat) (l0_3 : List Int) (a1 : Int) (a2 : Int) (r : List Int) (w : World) (hr0_3 : Kd.C (Kd.int .i64) w A0_3 l0_3.length l0_3) (hc0_3 : l0_3.length ≤ c0_3) (h : spec_pixelAt.f a0_0 a0_1 a0_2 l0_3 a1 a2 = some r) :
  Calls Try.prog 149 #[.agg #[.int .i64 a0_0, .int .i64 a0_1, .int .i64 a0_2, .slice A0_3 l0_3.length c0_3], .int .i64 a1, .int .i64 a2] w fun e w' => ∃ v0_ : Value, e = .returned v0_ ∧ Kd.R (Kd.int .i64) 3 w' w.heap.size (fun _ => True) v0_ r ∧ Below w.heap.size w w' := by
 have hu27 := Try.underlying27
 have HR0_3 := Aside0.mk hr0_3
 have HC0_3 := Aside0.mk hc0_3
 clear hr0_3 hc0_3
 have HB := Aside0.mk (Below.refl w.heap.size w)
 have H : (if 0 ≤ (wrap64 ((wrap64 ((wrap64 (a2 * a0_0)) + a1)) * a0_2)) then (if (wrap64 ((wrap64 ((wrap64 (a2 * a0_0)) + a1)) * a0_2)) ≤ (wrap64 ((wrap64 ((wrap64 ((wrap64 (a2 * a0_0)) + a1)) * a0_2)) + a0_2)) then (if (wrap64 ((wrap64 ((wrap64 ((wrap64 (a2 * a0_0)) + a1)) * a0_2)) + a0_2)) ≤ (l0_3.length : Int) then ((spec_copyInts.f ((l0_3.take ((wrap64 ((wrap64 ((wrap64 ((wrap64 (a2 * a0_0)) + a1)) * a0_2)) + a0_2)) : Int).toNat).drop ((wrap64 ((wrap64 ((wrap64 (a2 * a0_0)) + a1)) * a0_2)) : Int).toNat)).bind fun tz0 => (some tz0)) else none) else none) else none) = some r := h
 clear h
 obtain ⟨ji4, hji4⟩ : ∃ j_ : Int, (wrap64 ((wrap64 ((wrap64 (a2 * a0_0)) + a1)) * a0_2)) = j_ := ⟨_, rfl⟩
 replace H : (if 0 ≤ ji4 then (if ji4 ≤ (wrap64 (ji4 + a0_2)) then (if (wrap64 (ji4 + a0_2)) ≤ (l0_3.length : Int) then ((spec_copyInts.f ((l0_3.take ((wrap64 (ji4 + a0_2)) : Int).toNat).drop (ji4 : Int).toNat)).bind fun tz0 => (some tz0)) else none) else none) else none) = some r := by (rw [hji4] at H; exact H)
 have hji4w : (IntKind.i64.wrap ((wrap64 ((wrap64 (a2 * a0_0)) + a1)) * a0_2)) = ji4 := (i64_w _).trans hji4
 by_cases c5 : 0 ≤ (ji4)
 ·rw [if_pos c5] at H
  have c5b0 := eq_true c5
  have c5b1 : decide (0 ≤ ji4) = true := decide_eq_true c5
  clear c5
  by_cases c6 : ji4 ≤ (wrap64 (ji4 + a0_2))
  ·rw [if_pos c6] at H
   have c6b0 := eq_true c6
   have c6b1 : decide (ji4 ≤ (wrap64 (ji4 + a0_2))) = true := decide_eq_true c6
   by_cases c7 : (wrap64 (ji4 + a0_2)) ≤ (l0_3.length : Int)
   ·rw [if_pos c7] at H
    have c7b0 := eq_true c7
    have c7b1 : decide ((wrap64 (ji4 + a0_2)) ≤ (l0_3.length : Int)) = true := decide_eq_true c7
    replace H := Option.bind_eq_some_iff.mp H
    obtain ⟨tz0, A80, H⟩ := H
    replace H : (some tz0) = some r := H
    have A8 := Aside0.mk A80
    clear A80
    obtain rfl := Option.some.inj H
    go_enter Try.func149, Try.ntmps149
    go_wp2_with (first | ((with_reducible refine gate_dst (N := 3) rfl ?_); refine box_event (by rfl) (N := 3) (by rfl) (cs := #[.int .i64 a0_0, .int .i64 a0_1, .int .i64 a0_2, .slice A0_3 l0_3.length c0_3]) (t := 27) (by go_simp; done) ?_; intro gbz0 hg w9 hbox hb; replace HB := Aside0.mk (below_step HB.out hb); have BKz0 := Aside0.mk (hbox); clear hb hbox hg; obtain ⟨hcz10_0, -, hcz10_2, hcz10_3, -⟩ := c4 BKz0.out; obtain ⟨i011, hi011, _, hsz11, _⟩ := info_parts info3; obtain ⟨A11, hcut11, hA11, hC11⟩ := print_mid_of (P := Try.prog) (Value.int .i64) 0 22 3 .i64 .i64 Try.underlying22 hi011 hsz11 A0_3 c0_3 l0_3 ji4 (wrap64 (ji4 + a0_2)) (of_decide_eq_true (by (with_reducible assumption))) (by omega) (of_decide_eq_true (by (with_reducible assumption))) HC0_3.out; have HR150002 := Aside0.mk (Kd.C_of_reads (h1 := fun _ => rfl) (hA11 _ (Kd.reads_of_C HR0_3.out))); have HC150002 := Aside0.mk hC11; clear hA11 hC11 hi011 hsz11) | ((with_reducible refine gate_callee (f := 129) rfl ?_); refine goesL_ (some 25) rfl rfl Try.func129 (by kernel_rfl) rfl #[.slice A11 ((l0_3.take ((wrap64 (ji4 + a0_2)) : Int).toNat).drop (ji4 : Int).toNat).length (c0_3 - (ji4).toNat)] rfl (by (try simp only [List.map_toArray, List.map_cons, List.map_nil]); (rw [show ((l0_3.take ((wrap64 (ji4 + a0_2)) : Int).toNat).drop (ji4 : Int).toNat).length = ((wrap64 (ji4 + a0_2)).toNat - (ji4).toNat) from (by rw [List.length_drop, List.length_take]; have h_ : ((wrap64 (ji4 + a0_2)) : Int) ≤ (l0_3.length : Int) := of_decide_eq_true (by (with_reducible assumption)); omega)] <;> rfl)) ?_; (with_reducible refine (spec_copyInts.calls _ _ ((l0_3.take ((wrap64 (ji4 + a0_2)) : Int).toNat).drop (ji4 : Int).toNat) tz0 _ ?side1 ?side2 A8.out).mono ?_); (case side1 => repeat (exact (Kd.C_below HR150002.out HB.out))); (case side2 => exact HC150002.out); rintro e w12 ⟨vz0, rfl, ho0, hb⟩; refine ⟨_, rfl, ?_⟩; have n0_ := Aside0.mk (Kd.R_lower ho0 (below_size HB.out)); have n2_ := Aside0.mk (below_step HB.out hb); clear BKz0; clear HB; have HOz0 := n0_; have HB := n2_; (try clear hb); (try clear ho0)))
    go_ret
    exact ⟨_, by rfl, by exact HOz0.out, by exact HB.out⟩
   rw [if_neg c7] at H
   exact absurd H (by simp)
  rw [if_neg c6] at H
  exact absurd H (by simp)
 rw [if_neg c5] at H
 exact absurd H (by simp)


mutual
def spec_paste.l0 : Nat → Int → Int → Int → Int → Int → Int → List Int → Int → Int → Int → List Int → Option (List Int)
 | 0, _, _, _, _, _, _, _, _, _, _, _ => none
 | k + 1, x1, x2, x8, xz2, xz3, xz4, xz5, xz6, xz7, xz8, xz9 => if x8 < xz7 then (spec_paste.l1 k x1 x2 x8 0 xz2 xz3 xz4 xz5 xz6 xz7 xz8 xz9) else (some xz5)
def spec_paste.l1 : Nat → Int → Int → Int → Int → Int → Int → Int → List Int → Int → Int → Int → List Int → Option (List Int)
 | 0, _, _, _, _, _, _, _, _, _, _, _, _ => none
 | k + 1, x1, x2, x8, x9, xz2, xz3, xz4, xz5, xz6, xz7, xz8, xz9 => if x9 < xz6 then ((spec_onImage.f xz2 xz3 xz4 xz5 (wrap64 (x1 + x9)) (wrap64 (x2 + x8))).bind fun tz2 => (if tz2 = true then ((spec_pixelAt.f xz6 xz7 xz8 xz9 x9 x8).bind fun tz1 => ((spec_setPixel.f k xz2 xz3 xz4 xz5 (wrap64 (x1 + x9)) (wrap64 (x2 + x8)) tz1).bind fun tz0 => (spec_paste.l1 k x1 x2 x8 (wrap64 (x9 + 1)) xz2 xz3 xz4 tz0 xz6 xz7 xz8 xz9))) else (spec_paste.l1 k x1 x2 x8 (wrap64 (x9 + 1)) xz2 xz3 xz4 xz5 xz6 xz7 xz8 xz9))) else (spec_paste.l0 k x1 x2 (wrap64 (x8 + 1)) xz2 xz3 xz4 xz5 xz6 xz7 xz8 xz9)
end
def spec_paste.f (k : Nat) (a0_0 : Int) (a0_1 : Int) (a0_2 : Int) (l0_3 : List Int) (a1 : Int) (a2 : Int) (a3_0 : Int) (a3_1 : Int) (a3_2 : Int) (l3_3 : List Int) : Option (List Int) := spec_paste.l0 k a1 a2 0 a0_0 a0_1 a0_2 l0_3 a3_0 a3_1 a3_2 l3_3
def spec_paste.T8 : Bool × List (List Nat × List Nat) := (true, [([], []), ([], []), ([], []), ([1, 2], [1, 2]), ([], []), ([], []), ([4, 5], [4, 5]), ([], []), ([], []), ([], []), ([7, 8, 9], [7, 8, 9]), ([0, 3, 6, 10, 10], [0, 3, 6, 10])])
def spec_paste.B8 : List Nat := [0, 0, 0, 6, 0, 0, 48, 0, 0, 0, 896, 2047]
theorem spec_paste.tab8 : rtab .any (opsOf Try.f122 8) = spec_paste.T8 := by kernel_rfl
theorem spec_paste.bits8 : waitsOk spec_paste.T8.2 spec_paste.B8 = true := by kernel_rfl
theorem spec_paste.calls (k : Nat) (a0_0 : Int) (a0_1 : Int) (a0_2 : Int) (P0_3_ : Nat → Prop) (u9000_ : Value) (l0_3 : List Int) (a1 : Int) (a2 : Int) (a3_0 : Int) (a3_1 : Int) (a3_2 : Int) (A3_3 : Option Addr) (c3_3 : Nat) (l3_3 : List Int) (r : List Int) (w0 w : World) (hB : Below w0.heap.size w0 w) (ho0_3 : Kd.R (Kd.int .i64) 3 w w0.heap.size P0_3_ u9000_ l0_3) (hr3_3 : ∀ W_, Kept w W_ (fun k_ => P0_3_ k_) → Kd.C (Kd.int .i64) W_ A3_3 l3_3.length l3_3) (hc3_3 : l3_3.length ≤ c3_3) (h : spec_paste.f k a0_0 a0_1 a0_2 l0_3 a1 a2 a3_0 a3_1 a3_2 l3_3 = some r) :
  Calls Try.prog 122 #[.agg #[.int .i64 a0_0, .int .i64 a0_1, .int .i64 a0_2, u9000_], .int .i64 a1, .int .i64 a2, .agg #[.int .i64 a3_0, .int .i64 a3_1, .int .i64 a3_2, .slice A3_3 l3_3.length c3_3]] w fun e w' => e = .returned (.tuple #[]) ∧ Kd.R (Kd.int .i64) 3 w' w0.heap.size (fun k_ => (P0_3_ k_ ∨ w.heap.size ≤ k_)) u9000_ r ∧ Below w0.heap.size w0 w' ∧ Kept w w' (fun k_ => P0_3_ k_) := by
 have hu27 := Try.underlying27
 have HO0_3 := mk (show Kd.R (Kd.int .i64) 3 w w0.heap.size (fun k_ => (P0_3_ k_ ∨ w.heap.size ≤ k_)) u9000_ l0_3 from Kd.R_mono ho0_3 (fun k_ hk => (.inl hk)))
 have HR3_3 := mk hr3_3
 have HC3_3 := mk hc3_3
 clear hr3_3 hc3_3
 have HK := mk (Kept.refl w (fun k_ => P0_3_ k_))
 have HW0 := mk hB.size
 have HB := mk hB
 clear hB
 have H : (spec_paste.l0 k a1 a2 0 a0_0 a0_1 a0_2 l0_3 a3_0 a3_1 a3_2 l3_3) = some r := h
 clear h
 have H' := mk H
 clear H
 obtain ⟨Ao5, co5, eo5⟩ := Kd.R_slice HO0_3.out
 subst eo5
 go_enter Try.func122, Try.ntmps122
 go_wp2_with (first | ((with_reducible refine gate_dst (N := 4) rfl ?_); refine box_event (by rfl) (N := 4) (by rfl) (cs := #[.int .i64 a0_0, .int .i64 a0_1, .int .i64 a0_2, .slice Ao5 l0_3.length co5]) (t := 27) (by go_simp; done) ?_; intro gbz0 hg w6 hbox hb; replace HO0_3 := mk (Kd.R_below HO0_3.out hb); replace HK := mk (Kept.below (S := (fun k_ => P0_3_ k_)) HK.out hb); replace HB := mk (below_step HB.out hb); have BKz0 := mk (hbox); clear hb hbox hg) | ((with_reducible refine gate_dst (N := 7) rfl ?_); refine box_event (by rfl) (N := 7) (by rfl) (cs := #[.int .i64 a3_0, .int .i64 a3_1, .int .i64 a3_2, .slice A3_3 l3_3.length c3_3]) (t := 27) (by go_simp; done) ?_; intro gbz1 hg w7 hbox hb; replace HO0_3 := mk (Kd.R_below HO0_3.out hb); replace BKz0 := mk (blk_below BKz0.out hb); replace HK := mk (Kept.below (S := (fun k_ => P0_3_ k_)) HK.out hb); replace HB := mk (below_step HB.out hb); have BKz1 := mk (hbox); clear hb hbox hg))
 go_loopg [8] k (fun kq v8 w' => ∃ (x8_1 : Int) (xz1 : List Int), v8 = .int .i64 x8_1 ∧ Aside0 (spec_paste.l0 kq a1 a2 x8_1 a0_0 a0_1 a0_2 xz1 a3_0 a3_1 a3_2 l3_3 = some r) ∧ Aside0 (kq ≤ k) ∧ Aside0 (Kd.R (Kd.int .i64) 3 w' w0.heap.size (fun k_ => (P0_3_ k_ ∨ w.heap.size ≤ k_)) (.slice Ao5 l0_3.length co5) xz1) ∧ Aside0 (w'.heap[gbz0]? = some (.cells #[.int .i64 a0_0, .int .i64 a0_1, .int .i64 a0_2, (.slice Ao5 l0_3.length co5)] 27 (0, 0))) ∧ Aside0 (w'.heap[gbz1]? = some (.cells #[.int .i64 a3_0, .int .i64 a3_1, .int .i64 a3_2, (.slice A3_3 l3_3.length c3_3)] 27 (0, 0))) ∧ Aside0 (Kept w w' (fun k_ => P0_3_ k_)) ∧ Aside0 (Below w0.heap.size w0 w'))
 case atStart => exact ⟨(0), (l0_3), (by rfl), H', ⟨Nat.le_refl _⟩, HO0_3, BKz0, BKz1, HK, HB⟩
 case round =>
  clear H'
  obtain ⟨x8_1, xz1, rfl, HA, HK1, HOz0, BKz0, BKz1, HK, HB⟩ := hrel
  have hl123002003_1 := (Kd.R_reads' HOz0.out).1
  rw [hl123002003_1] at HOz0
  (try simp only [hl123002003_1])
  (try simp only [hl123002003_1] at BKz0)
  cases gk with
  | zero => exact absurd HA.out (by simp [spec_paste.l0])
  | succ k1 =>
   have H := HA.out
   clear HA
   simp only [spec_paste.l0] at H
   by_cases c8 : x8_1 < a3_1
   ·rw [if_pos c8] at H
    have c8b0 : decide (x8_1 < a3_1) = true := decide_eq_true c8
    clear c8
    have H' := mk H
    clear H
    obtain ⟨hcz10_0, hcz10_1, hcz10_2, hcz10_3, hfz10_0, hfz10_1, hfz10_2, hfz10_3⟩ := c4 BKz1.out
    go_wp2
    go_loopg [9] k1 (fun kq v9 w' => ∃ (x9_2 : Int) (xz0 : List Int), v9 = .int .i64 x9_2 ∧ Aside0 (spec_paste.l1 kq a1 a2 x8_1 x9_2 a0_0 a0_1 a0_2 xz0 a3_0 a3_1 a3_2 l3_3 = some r) ∧ Aside0 (kq ≤ k1) ∧ Aside0 (Kd.R (Kd.int .i64) 3 w' w0.heap.size (fun k_ => (P0_3_ k_ ∨ w.heap.size ≤ k_)) (.slice Ao5 xz1.length co5) xz0) ∧ Aside0 (w'.heap[gbz0]? = some (.cells #[.int .i64 a0_0, .int .i64 a0_1, .int .i64 a0_2, (.slice Ao5 xz1.length co5)] 27 (0, 0))) ∧ Aside0 (w'.heap[gbz1]? = some (.cells #[.int .i64 a3_0, .int .i64 a3_1, .int .i64 a3_2, (.slice A3_3 l3_3.length c3_3)] 27 (0, 0))) ∧ Aside0 (Kept w w' (fun k_ => P0_3_ k_)) ∧ Aside0 (Below w0.heap.size w0 w'))
    case atStart => exact ⟨(0), (xz1), (by rfl), H', ⟨Nat.le_refl _⟩, HOz0, BKz0, BKz1, HK, HB⟩
    case round =>
     clear H'
     obtain ⟨x9_2, xz0, rfl, HA, HK2, HOz0, BKz0, BKz1, HK, HB⟩ := hrel
     have hl123002003_2 := (Kd.R_reads' HOz0.out).1
     rw [hl123002003_2] at HOz0
     (try simp only [hl123002003_2])
     (try simp only [hl123002003_2] at BKz0)
     cases gk with
     | zero => exact absurd HA.out (by simp [spec_paste.l1])
     | succ k2 =>
      have H := HA.out
      clear HA
      simp only [spec_paste.l1] at H
      by_cases c11 : x9_2 < a3_0
      ·rw [if_pos c11] at H
       have c11b0 : decide (x9_2 < a3_0) = true := decide_eq_true c11
       clear c11
       replace H := Option.bind_eq_some_iff.mp H
       obtain ⟨tz2, A120, H⟩ := H
       replace H : (if tz2 = true then ((spec_pixelAt.f a3_0 a3_1 a3_2 l3_3 x9_2 x8_1).bind fun tz1 => ((spec_setPixel.f k2 a0_0 a0_1 a0_2 xz0 (wrap64 (a1 + x9_2)) (wrap64 (a2 + x8_1)) tz1).bind fun tz0 => (spec_paste.l1 k2 a1 a2 x8_1 (wrap64 (x9_2 + 1)) a0_0 a0_1 a0_2 tz0 a3_0 a3_1 a3_2 l3_3))) else (spec_paste.l1 k2 a1 a2 x8_1 (wrap64 (x9_2 + 1)) a0_0 a0_1 a0_2 xz0 a3_0 a3_1 a3_2 l3_3)) = some r := H
       have A12 := mk A120
       clear A120
       by_cases c13 : tz2 = true
       ·subst c13
        have H1 : ((spec_pixelAt.f a3_0 a3_1 a3_2 l3_3 x9_2 x8_1).bind fun tz1 => ((spec_setPixel.f k2 a0_0 a0_1 a0_2 xz0 (wrap64 (a1 + x9_2)) (wrap64 (a2 + x8_1)) tz1).bind fun tz0 => (spec_paste.l1 k2 a1 a2 x8_1 (wrap64 (x9_2 + 1)) a0_0 a0_1 a0_2 tz0 a3_0 a3_1 a3_2 l3_3))) = some r := by rw [if_pos rfl] at H; exact H
        clear H
        have H := H1
        clear H1
        replace H := Option.bind_eq_some_iff.mp H
        obtain ⟨tz1, A140, H⟩ := H
        replace H : ((spec_setPixel.f k2 a0_0 a0_1 a0_2 xz0 (wrap64 (a1 + x9_2)) (wrap64 (a2 + x8_1)) tz1).bind fun tz0 => (spec_paste.l1 k2 a1 a2 x8_1 (wrap64 (x9_2 + 1)) a0_0 a0_1 a0_2 tz0 a3_0 a3_1 a3_2 l3_3)) = some r := H
        have A14 := mk A140
        clear A140
        replace H := Option.bind_eq_some_iff.mp H
        obtain ⟨tz0, A150, H⟩ := H
        replace H : (spec_paste.l1 k2 a1 a2 x8_1 (wrap64 (x9_2 + 1)) a0_0 a0_1 a0_2 tz0 a3_0 a3_1 a3_2 l3_3) = some r := H
        have A15 := mk A150
        clear A150
        have H' := mk H
        clear H
        have hcz17_0 : wr.cell? ⟨gbz1, 0, none⟩ = some (.int .i64 a3_0) := (blk_cell BKz1.out 0).trans rfl
        obtain ⟨hcz18_0, hcz18_1, hcz18_2, hcz18_3, -⟩ := c4 BKz0.out
        try go_wp2_with (first | ((with_reducible refine gate_callee (f := 144) rfl ?_); refine goesL_ (some 29) rfl rfl Try.func144 (by kernel_rfl) rfl #[.agg #[.int .i64 a0_0, .int .i64 a0_1, .int .i64 a0_2, .slice Ao5 xz0.length co5], .int .i64 (wrap64 (a1 + x9_2)), .int .i64 (wrap64 (a2 + x8_1))] rfl (by (try simp only [bitvec_to_nat]); rfl) ?_; (with_reducible refine (spec_onImage.calls a0_0 a0_1 a0_2 _ _ xz0 (wrap64 (a1 + x9_2)) (wrap64 (a2 + x8_1)) true _ ?side1 ?side2 A12.out).mono ?_); (case side1 => repeat (exact (Kd.R_reads' HOz0.out).2.2)); (case side2 => exact (Kd.R_reads' HOz0.out).2.1); rintro e w19 ⟨rfl, hb⟩; refine ⟨_, rfl, ?_⟩; replace HOz0 := mk (Kd.R_below HOz0.out hb); replace BKz0 := mk (blk_below BKz0.out hb); replace BKz1 := mk (blk_below BKz1.out hb); replace HK := mk (Kept.below (S := (fun k_ => P0_3_ k_)) HK.out hb); replace HB := mk (below_step HB.out hb); (try clear hb)))
        replace HOz0 := mk (Kd.R_drew HOz0.out)
        replace BKz0 := mk (blk_drew BKz0.out)
        replace BKz1 := mk (blk_drew BKz1.out)
        replace HK := mk (Kept.drew HK.out)
        replace HB := mk (below_drew1 HB.out)
        refine start_ (n := 12) (S := fun w' => w'.cell? ⟨gbz0, 0, none⟩ = some (.int .i64 a0_0) ∧ w'.cell? ⟨gbz0, 1, none⟩ = some (.int .i64 a0_1) ∧ w'.cell? ⟨gbz0, 2, none⟩ = some (.int .i64 a0_2) ∧ w'.cell? ⟨gbz0, 3, none⟩ = some (.slice Ao5 xz0.length co5) ∧ w'.cell? ⟨gbz1, 0, none⟩ = some (.int .i64 a3_0) ∧ w'.cell? ⟨gbz1, 1, none⟩ = some (.int .i64 a3_1) ∧ w'.cell? ⟨gbz1, 2, none⟩ = some (.int .i64 a3_2) ∧ w'.cell? ⟨gbz1, 3, none⟩ = some (.slice A3_3 l3_3.length c3_3)) (ds := []) #[false, false, false, false, false, false, false, false, false, false, false, false] (by kernel_rfl) rfl rfl ⟨blk_cell BKz0.out 0, blk_cell BKz0.out 1, blk_cell BKz0.out 2, blk_cell BKz0.out 3, blk_cell BKz1.out 0, blk_cell BKz1.out 1, blk_cell BKz1.out 2, blk_cell BKz1.out 3⟩ (fun hHeld => ?_); refine with_tabW spec_paste.tab8 spec_paste.bits8 (fun HT_ HW_ => ?_)
        generalize w19.drew = w20 at HOz0 BKz0 BKz1 HK HB hHeld ⊢
        refine pu 1 31 ?_ ?_ rfl rfl (any_of HT_.out (by kernel_rfl)) (Or.inl ⟨by rfl, ?_⟩) ?_ ?_
        rotate_left 2
        ·intro w'
         go_simp
         with_reducible rfl
        ·simp only [seval]
         rfl
        refine pu 2 32 ?_ ?_ rfl rfl (any_of HT_.out (by kernel_rfl)) (Or.inl ⟨by rfl, ?_⟩) ?_ ?_
        rotate_left 2
        ·intro w'
         go_simp
         with_reducible rfl
        ·simp only [seval]
         rfl
        refine pu 3 33 ?_ ?_ rfl rfl (any_of HT_.out (by kernel_rfl)) (Or.inl ⟨by rfl, ?_⟩) ?_ ?_
        rotate_left 2
        ·intro w'
         go_simp
         with_reducible rfl
        ·simp only [seval]
         rfl
        refine pu 4 34 ?_ ?_ rfl rfl (any_of HT_.out (by kernel_rfl)) (Or.inl ⟨by rfl, ?_⟩) ?_ ?_
        rotate_left 2
        ·intro w'
         go_simp
         with_reducible rfl
        ·simp only [seval]
         rfl
        refine pu 5 35 ?_ ?_ rfl rfl (any_of HT_.out (by kernel_rfl)) (Or.inl ⟨by rfl, ?_⟩) ?_ ?_
        rotate_left 2
        ·intro w'
         go_simp
         with_reducible rfl
        ·simp only [seval]
         rfl
        refine pu 6 36 ?_ ?_ rfl rfl (any_of HT_.out (by kernel_rfl)) (Or.inl ⟨by rfl, ?_⟩) ?_ ?_
        rotate_left 2
        ·intro w'
         go_simp
         with_reducible rfl
        ·simp only [seval]
         rfl
        refine pu 8 38 ?_ ?_ rfl rfl (any_of HT_.out (by kernel_rfl)) (Or.inl ⟨by rfl, ?_⟩) ?_ ?_
        rotate_left 2
        ·intro w'
         go_simp
         with_reducible rfl
        ·simp only [seval]
         rfl
        refine pu 9 39 ?_ ?_ rfl rfl (any_of HT_.out (by kernel_rfl)) (Or.inl ⟨by rfl, ?_⟩) ?_ ?_
        rotate_left 2
        ·intro w'
         go_simp
         with_reducible rfl
        ·simp only [seval]
         rfl
        refine tk 0 30 ?_ ?_ rfl rfl (take_ofW HT_.out HW_.out (by kernel_rfl)) (Or.inl ⟨by rfl, ?_⟩) hHeld ?_ ?_
        rotate_left 2
        ·rintro w' ⟨s0, s1, s2, s3, s4, s5, s6, s7⟩
         go_simp
         with_reducible rfl
        ·simp only [seval]
         rfl
        refine tk 7 37 ?_ ?_ rfl rfl (take_ofW HT_.out HW_.out (by kernel_rfl)) (Or.inl ⟨by rfl, ?_⟩) hHeld ?_ ?_
        rotate_left 2
        ·rintro w' ⟨s0, s1, s2, s3, s4, s5, s6, s7⟩
         go_simp
         with_reducible rfl
        ·simp only [seval]
         rfl
        refine one_ (i := 10) (N := some 40) #[true, true, true, true, true, true, true, true, true, true, true, false] rfl rfl (one_of HT_.out (by kernel_rfl)) (by decide) (fun K hK => ?_)
        refine goes_ Try.func149 (by kernel_rfl) rfl #[.agg #[.int .i64 a3_0, .int .i64 a3_1, .int .i64 a3_2, .slice A3_3 l3_3.length c3_3], .int .i64 x9_2, .int .i64 x8_1] (by rfl) rfl rfl (by (try simp only [bitvec_to_nat]); rfl) ?_
        with_reducible refine (spec_pixelAt.calls a3_0 a3_1 a3_2 _ _ l3_3 x9_2 x8_1 tz1 _ ?side1 ?side2 A14.out).mono ?_
        (case side1 => exact Kd.C_kept_now HR3_3.out HK.out)
        (case side2 => exact HC3_3.out)
        rintro e w21 ⟨vz0, rfl, ho0, hb⟩
        refine ⟨_, rfl, ?_⟩
        have HOz1 := mk (Kd.R_lower (Kd.R_new' (Kd.R_newM (M := fun k_ => (P0_3_ k_ ∨ w.heap.size ≤ k_)) ho0 HK.out.1 (fun k_ h_ => .inr h_)) (Kd.R_lt HOz0.out)) (below_size HB.out))
        replace HOz0 := mk (Kd.R_elder' HOz0.out (Kd.R_base ho0) hb)
        replace BKz0 := mk (blk_below BKz0.out hb)
        replace BKz1 := mk (blk_below BKz1.out hb)
        replace HK := mk (Kept.below (S := (fun k_ => P0_3_ k_)) HK.out hb)
        replace HB := mk (below_step HB.out hb)
        (try clear hb)
        (try clear ho0)
        obtain ⟨Ao22, co22, eo22⟩ := Kd.R_slice HOz1.out
        (subst eo22)
        refine hK.out _ _ ⟨blk_cell BKz0.out 0, blk_cell BKz0.out 1, blk_cell BKz0.out 2, blk_cell BKz0.out 3, blk_cell BKz1.out 0, blk_cell BKz1.out 1, blk_cell BKz1.out 2, blk_cell BKz1.out 3⟩ (fun hHeld => ?_)
        clear hK K
        refine norm_ (a' := ?_) ?_ ?_
        rotate_left
        ·show Act.put _ (some 40) _ = _
         simp only [seval]
         rfl
        refine one_ (i := 11) (N := some 41) #[true, true, true, true, true, true, true, true, true, true, true, true] rfl rfl (one_of HT_.out (by kernel_rfl)) (by decide) (fun K hK => ?_)
        refine goes_ Try.func148 (by kernel_rfl) rfl #[.agg #[.int .i64 a0_0, .int .i64 a0_1, .int .i64 a0_2, .slice Ao5 xz0.length co5], .int .i64 (wrap64 (a1 + x9_2)), .int .i64 (wrap64 (a2 + x8_1)), .slice Ao22 tz1.length co22] (by rfl) rfl rfl (by (try simp only [bitvec_to_nat]); rfl) ?_
        with_reducible refine (spec_setPixel.calls k2 a0_0 a0_1 a0_2 (fun k_ => some k_ = (.slice Ao5 xz0.length co5 : Value).ownBlock) (.slice Ao5 xz0.length co5) xz0 (wrap64 (a1 + x9_2)) (wrap64 (a2 + x8_1)) _ _ tz1 tz0 w0 _ ?side1 ?side2 ?side3 ?side4 A15.out).mono ?_
        (case side1 => repeat (with_reducible exact HB.out))
        (case side2 => exact Kd.R_tight rfl HOz0.out)
        (case side3 => exact Kd.C_kept_own HOz1.out (fun k_ hk_ hs_ => hk_.2 hs_))
        (case side4 => exact (Kd.R_reads' HOz1.out).2.1)
        rintro e w23 ⟨rfl, hy0, hb, hkp⟩
        refine ⟨_, rfl, ?_⟩
        replace BKz0 := mk (blk_kept BKz0.out hkp (fun hs_ => (fun e_ => (Kd.R_ne HOz0.out BKz0.out (by decide)) e_) hs_))
        replace BKz1 := mk (blk_kept BKz1.out hkp (fun hs_ => (fun e_ => (Kd.R_ne HOz0.out BKz1.out (by decide)) e_) hs_))
        replace HOz1 := mk (Kd.R_mono (ok' := fun k_ => (P0_3_ k_ ∨ w.heap.size ≤ k_) ∧ some k_ ≠ (.slice Ao5 xz0.length co5 : Value).ownBlock) (Kd.R_keptB HOz1.out hkp (fun k_ hk_ hs_ => hk_.2 hs_)) (fun k_ hk_ => ⟨hk_.1.1.1, hk_.1.2⟩))
        replace HK := mk (Kept.then_ (S := (fun k_ => P0_3_ k_)) HK.out hkp (fun k_ hs_ => (fun e_ => (HOz0.out.1 k_ e_.symm).1) hs_))
        replace HOz0 := mk (Kd.R_reok rfl hy0 (fun k_ e_ => HOz0.out.1 k_ e_))
        replace HB := mk (hb)
        (try clear hb)
        (try clear hkp)
        (try clear hy0)
        refine hK.out _ _ ⟨blk_cell BKz0.out 0, blk_cell BKz0.out 1, blk_cell BKz0.out 2, blk_cell BKz0.out 3, blk_cell BKz1.out 0, blk_cell BKz1.out 1, blk_cell BKz1.out 2, blk_cell BKz1.out 3⟩ (fun hHeld => ?_)
        clear hK K
        refine norm_ (a' := ?_) ?_ ?_
        rotate_left
        ·show Act.put _ (some 41) _ = _
         simp only [seval]
         rfl
        refine done_ (done_of HT_.out (by kernel_rfl)) ?_
        try go_wp2
        (try simp only [← hl123002003_2])
        go_roundg k2
        case measure => have := HK1.out; have := HK2.out; omega
        case rel => exact ⟨(wrap64 (x9_2 + 1)), (tz0), (by rfl), H', ⟨by have := HK1.out; have := HK2.out; omega⟩, ⟨by (try simp only [hl123002003_2]); exact Kd.R_mono HOz0.out (fun _ hk => hk.1)⟩, ⟨by (try simp only [hl123002003_2]); exact BKz0.out⟩, BKz1, HK, HB⟩
       replace c13 := Bool.eq_false_iff.mpr c13
       subst c13
       have H1 : (spec_paste.l1 k2 a1 a2 x8_1 (wrap64 (x9_2 + 1)) a0_0 a0_1 a0_2 xz0 a3_0 a3_1 a3_2 l3_3) = some r := by rw [if_neg (show ¬ (false = true) by decide)] at H; exact H
       clear H
       have H := H1
       clear H1
       have H' := mk H
       clear H
       have hcz25_0 : wr.cell? ⟨gbz1, 0, none⟩ = some (.int .i64 a3_0) := (blk_cell BKz1.out 0).trans rfl
       obtain ⟨hcz26_0, hcz26_1, hcz26_2, hcz26_3, -⟩ := c4 BKz0.out
       go_wp2_with (first | ((with_reducible refine gate_callee (f := 144) rfl ?_); refine goesL_ (some 29) rfl rfl Try.func144 (by kernel_rfl) rfl #[.agg #[.int .i64 a0_0, .int .i64 a0_1, .int .i64 a0_2, .slice Ao5 xz0.length co5], .int .i64 (wrap64 (a1 + x9_2)), .int .i64 (wrap64 (a2 + x8_1))] rfl (by (try simp only [bitvec_to_nat]); rfl) ?_; (with_reducible refine (spec_onImage.calls a0_0 a0_1 a0_2 _ _ xz0 (wrap64 (a1 + x9_2)) (wrap64 (a2 + x8_1)) false _ ?side1 ?side2 A12.out).mono ?_); (case side1 => repeat (exact (Kd.R_reads' HOz0.out).2.2)); (case side2 => exact (Kd.R_reads' HOz0.out).2.1); rintro e w27 ⟨rfl, hb⟩; refine ⟨_, rfl, ?_⟩; replace HOz0 := mk (Kd.R_below HOz0.out hb); replace BKz0 := mk (blk_below BKz0.out hb); replace BKz1 := mk (blk_below BKz1.out hb); replace HK := mk (Kept.below (S := (fun k_ => P0_3_ k_)) HK.out hb); replace HB := mk (below_step HB.out hb); (try clear hb)))
       (try simp only [← hl123002003_2])
       go_roundg k2
       case measure => have := HK1.out; have := HK2.out; omega
       case rel => exact ⟨(wrap64 (x9_2 + 1)), (xz0), (by rfl), H', ⟨by have := HK1.out; have := HK2.out; omega⟩, ⟨by (try simp only [hl123002003_2]); exact HOz0.out⟩, ⟨by (try simp only [hl123002003_2]); exact BKz0.out⟩, BKz1, HK, HB⟩
      rw [if_neg c11] at H
      have c11b0 : decide (x9_2 < a3_0) = false := decide_eq_false c11
      clear c11
      have H' := mk H
      clear H
      have hcz29_0 : wr.cell? ⟨gbz1, 0, none⟩ = some (.int .i64 a3_0) := (blk_cell BKz1.out 0).trans rfl
      go_wp2
      (try simp only [← hl123002003_1, ← hl123002003_2])
      go_roundg k2
      case measure => have := HK1.out; have := HK2.out; omega
      case rel => exact ⟨(wrap64 (x8_1 + 1)), (xz0), (by rfl), H', ⟨by have := HK1.out; have := HK2.out; omega⟩, ⟨by (try simp only [hl123002003_1]); (try simp only [hl123002003_2]); exact HOz0.out⟩, ⟨by (try simp only [hl123002003_1]); (try simp only [hl123002003_2]); exact BKz0.out⟩, BKz1, HK, HB⟩
   rw [if_neg c8] at H
   have c8b0 : decide (x8_1 < a3_1) = false := decide_eq_false c8
   clear c8
   obtain rfl := Option.some.inj H
   have hcz31_1 : wr.cell? ⟨gbz1, 1, none⟩ = some (.int .i64 a3_1) := (blk_cell BKz1.out 1).trans rfl
   go_wp2
   go_end0
   exact ⟨by rfl, HOz0.out, by exact HB.out, by exact HK.out⟩


def spec_newImage.f (a0 : Int) (a1 : Int) (a2 : Int) : Option (Int × Int × Int × List Int) := if 0 ≤ (wrap64 ((wrap64 (a0 * a1)) * a2)) then (if (wrap64 ((wrap64 (a0 * a1)) * a2) : Int).toNat ≤ 35184372088832 then (some (a0, a1, a2, (List.replicate (wrap64 ((wrap64 (a0 * a1)) * a2) : Int).toNat 0))) else none) else (none)
theorem spec_newImage.calls (a0 : Int) (a1 : Int) (a2 : Int) (r1 : Int) (r2 : Int) (r3 : Int) (r4 : List Int) (w : World) (h : spec_newImage.f a0 a1 a2 = some (r1, r2, r3, r4)) :
  Calls Try.prog 111 #[.int .i64 a0, .int .i64 a1, .int .i64 a2] w fun e w' => ∃ v3_ : Value, e = .returned (.agg #[.int .i64 r1, .int .i64 r2, .int .i64 r3, v3_]) ∧ Kd.R (Kd.int .i64) 3 w' w.heap.size (fun _ => True) v3_ r4 ∧ Below w.heap.size w w' := by
 have hu27 := Try.underlying27
 have HB := Aside0.mk (Below.refl w.heap.size w)
 have H : (if 0 ≤ (wrap64 ((wrap64 (a0 * a1)) * a2)) then (if (wrap64 ((wrap64 (a0 * a1)) * a2) : Int).toNat ≤ 35184372088832 then (some (a0, a1, a2, (List.replicate (wrap64 ((wrap64 (a0 * a1)) * a2) : Int).toNat 0))) else none) else none) = some (r1, r2, r3, r4) := h
 clear h
 obtain ⟨ji4, hji4⟩ : ∃ j_ : Int, (wrap64 ((wrap64 (a0 * a1)) * a2)) = j_ := ⟨_, rfl⟩
 replace H : (if 0 ≤ ji4 then (if (ji4 : Int).toNat ≤ 35184372088832 then (some (a0, a1, a2, (List.replicate (ji4 : Int).toNat 0))) else none) else none) = some (r1, r2, r3, r4) := by (rw [hji4] at H; exact H)
 have hji4w : (IntKind.i64.wrap ((wrap64 (a0 * a1)) * a2)) = ji4 := (i64_w _).trans hji4
 by_cases c5 : 0 ≤ (ji4)
 ·rw [if_pos c5] at H
  have c5b0 := eq_true c5
  have c5b1 : decide (0 ≤ ji4) = true := decide_eq_true c5
  clear c5
  by_cases c6 : (ji4 : Int).toNat ≤ 35184372088832
  ·rw [if_pos c6] at H
   have c6b0 := eq_true c6
   have c6b1 : decide ((ji4 : Int).toNat ≤ 35184372088832) = true := decide_eq_true c6
   clear c6
   obtain ⟨yz0, hyz0⟩ : ∃ y_ : List Int, y_ = (List.replicate (ji4 : Int).toNat 0) := ⟨_, rfl⟩
   replace H : (some (a0, a1, a2, yz0)) = some (r1, r2, r3, r4) := by (rw [hyz0]; with_reducible exact H)
   have Nyz0 := Aside0.mk hyz0
   clear hyz0
   simp only [Option.some.injEq, Prod.mk.injEq] at H
   obtain ⟨rfl, rfl, rfl, rfl⟩ := H
   go_enter Try.func111, Try.ntmps111
   go_wp2_with (first | ((with_reducible refine gate_dst (N := 6) rfl ?_); refine box_event (by rfl) (N := 6) (by rfl) (cs := #[.int .i64 0, .int .i64 0, .int .i64 0, .slice none 0 0]) (t := 27) (by go_simp; done) ?_; intro gbz0 hg w7 hbox hb; have BKz0 := Aside0.mk (hbox); have GEz0 := Aside0.mk ((by rw [hg]; exact (below_size HB.out) : w.heap.size ≤ gbz0)); replace HB := Aside0.mk (below_step HB.out hb); clear hb hbox hg) | ((with_reducible refine gate_dst (N := 15) rfl ?_); refine Kd.R_make (Kd.int .i64) _ 3 rfl (N := 15) rfl 22 _ _ rfl ji4 rfl rfl Try.underlying22 (.int .i64 0) 8 info3 rfl (by decide) (by omega) 0 (ok := fun _ => True) (okp := fun _ => True) rfl (fun _ hk => hk) trivial (of_decide_eq_true (by (with_reducible assumption))) (Nat.le_trans (Nat.mul_le_mul_right _ (of_decide_eq_true (by (with_reducible assumption)) : ji4.toNat ≤ 35184372088832)) (by omega)) (Below.refl _ _) (Nat.le_refl _) ?_; intro vz0 w8 ho9 hb hg_ hnew_; clear hg_ hnew_; (rw [← Nyz0.out] at ho9); have HOz0 := Aside0.mk (Kd.R_lower ho9 (below_size HB.out)); replace BKz0 := Aside0.mk (blk_below BKz0.out hb); replace HB := Aside0.mk (below_step HB.out hb); clear hb ho9; obtain ⟨Ao10, co10, eo10⟩ := Kd.R_slice HOz0.out; subst eo10; obtain ⟨hcz11_0, hcz11_1, hcz11_2, hcz11_3, hfz11_0, hfz11_1, hfz11_2, hfz11_3⟩ := c4 BKz0.out))
   refine bodyPost_ret (results_cell_row rfl _ _ gbz0 27 #[.int .i64 a0, .int .i64 a1, .int .i64 a2, .slice Ao10 yz0.length co10] (0, 0) _ rfl (by refine blk_put (cs := #[.int .i64 a0, .int .i64 a1, .int .i64 a2, .slice none 0 0]) ?_ 3 _ rfl; refine blk_put (cs := #[.int .i64 a0, .int .i64 a1, .int .i64 0, .slice none 0 0]) ?_ 2 _ rfl; refine blk_put (cs := #[.int .i64 a0, .int .i64 0, .int .i64 0, .slice none 0 0]) ?_ 1 _ rfl; refine blk_put (cs := #[.int .i64 0, .int .i64 0, .int .i64 0, .slice none 0 0]) ?_ 0 _ rfl; exact BKz0.out) Try.underlying27 rfl (by kernel_rfl)) rfl ?_
   exact ⟨_, by rfl, by exact Kd.R_mono (Kd.R_far (p := ⟨gbz0, 3, none⟩) (Kd.R_far (p := ⟨gbz0, 2, none⟩) (Kd.R_far (p := ⟨gbz0, 1, none⟩) (Kd.R_far (p := ⟨gbz0, 0, none⟩) (Kd.R_types HOz0.out BKz0.out (by decide)) (fun _ hk => hk.2) (.int .i64 a0)) (fun _ hk => hk.2) (.int .i64 a1)) (fun _ hk => hk.2) (.int .i64 a2)) (fun _ hk => hk.2) (.slice Ao10 yz0.length co10)) (fun _ hk => trivial), by repeat (with_reducible first | exact HB.out | refine below_set ?_ GEz0.out)⟩
  rw [if_neg c6] at H
  exact absurd H (by simp)
 rw [if_neg c5] at H
 exact absurd H (by simp)


mutual
def spec_crop.l0 : Nat → Int → Int → Int → Int → Int → Int → Int → Int → List Int → Int → Int → Int → List Int → Option (Int × Int × Int × List Int)
 | 0, _, _, _, _, _, _, _, _, _, _, _, _, _ => none
 | k + 1, x1, x2, x3, x4, x12, xz5, xz6, xz7, xz8, xz2, xz3, xz4, xz9 => if x12 < x4 then (spec_crop.l1 k x1 x2 x3 x4 x12 0 xz5 xz6 xz7 xz8 xz2 xz3 xz4 xz9) else (some (xz2, xz3, xz4, xz9))
def spec_crop.l1 : Nat → Int → Int → Int → Int → Int → Int → Int → Int → Int → List Int → Int → Int → Int → List Int → Option (Int × Int × Int × List Int)
 | 0, _, _, _, _, _, _, _, _, _, _, _, _, _, _ => none
 | k + 1, x1, x2, x3, x4, x12, x13, xz5, xz6, xz7, xz8, xz2, xz3, xz4, xz9 => if x13 < x3 then ((spec_pixelAt.f xz5 xz6 xz7 xz8 (wrap64 (x1 + x13)) (wrap64 (x2 + x12))).bind fun tz4 => ((spec_setPixel.f k xz2 xz3 xz4 xz9 x13 x12 tz4).bind fun tz3 => (spec_crop.l1 k x1 x2 x3 x4 x12 (wrap64 (x13 + 1)) xz5 xz6 xz7 xz8 xz2 xz3 xz4 tz3))) else (spec_crop.l0 k x1 x2 x3 x4 (wrap64 (x12 + 1)) xz5 xz6 xz7 xz8 xz2 xz3 xz4 xz9)
end
def spec_crop.f (k : Nat) (a0_0 : Int) (a0_1 : Int) (a0_2 : Int) (l0_3 : List Int) (a1 : Int) (a2 : Int) (a3 : Int) (a4 : Int) : Option (Int × Int × Int × List Int) := (spec_newImage.f a3 a4 a0_2).bind fun btz0 => (spec_crop.l0 k a1 a2 a3 a4 0 a0_0 a0_1 a0_2 l0_3 btz0.1 btz0.2.1 btz0.2.2.1 btz0.2.2.2)
def spec_crop.T8 : Bool × List (List Nat × List Nat) := (true, [([], []), ([], []), ([], []), ([], []), ([], []), ([], []), ([4, 5], [4, 5]), ([], []), ([], []), ([7, 8], [7, 8]), ([3, 6, 9], [3, 6, 9]), ([0, 1, 2, 10, 10], [0, 1, 2, 10])])
def spec_crop.B8 : List Nat := [0, 0, 0, 0, 0, 0, 48, 0, 0, 384, 1016, 2047]
theorem spec_crop.tab8 : rtab .any (opsOf Try.f123 8) = spec_crop.T8 := by kernel_rfl
theorem spec_crop.bits8 : waitsOk spec_crop.T8.2 spec_crop.B8 = true := by kernel_rfl
theorem spec_crop.calls (k : Nat) (a0_0 : Int) (a0_1 : Int) (a0_2 : Int) (A0_3 : Option Addr) (c0_3 : Nat) (l0_3 : List Int) (a1 : Int) (a2 : Int) (a3 : Int) (a4 : Int) (r1 : Int) (r2 : Int) (r3 : Int) (r4 : List Int) (w : World) (hr0_3 : Kd.C (Kd.int .i64) w A0_3 l0_3.length l0_3) (hc0_3 : l0_3.length ≤ c0_3) (h : spec_crop.f k a0_0 a0_1 a0_2 l0_3 a1 a2 a3 a4 = some (r1, r2, r3, r4)) :
  Calls Try.prog 123 #[.agg #[.int .i64 a0_0, .int .i64 a0_1, .int .i64 a0_2, .slice A0_3 l0_3.length c0_3], .int .i64 a1, .int .i64 a2, .int .i64 a3, .int .i64 a4] w fun e w' => ∃ v3_ : Value, e = .returned (.agg #[.int .i64 r1, .int .i64 r2, .int .i64 r3, v3_]) ∧ Kd.R (Kd.int .i64) 3 w' w.heap.size (fun _ => True) v3_ r4 ∧ Below w.heap.size w w' := by
 have hu27 := Try.underlying27
 have HR0_3 := mk hr0_3
 have HC0_3 := mk hc0_3
 clear hr0_3 hc0_3
 have HB := mk (Below.refl w.heap.size w)
 have H : ((spec_newImage.f a3 a4 a0_2).bind fun btz0 => (spec_crop.l0 k a1 a2 a3 a4 0 a0_0 a0_1 a0_2 l0_3 btz0.1 btz0.2.1 btz0.2.2.1 btz0.2.2.2)) = some (r1, r2, r3, r4) := h
 clear h
 replace H := Option.bind_eq_some_iff.mp H
 obtain ⟨⟨tz0, tz1, tz2, tz5⟩, A60, H⟩ := H
 replace H : (spec_crop.l0 k a1 a2 a3 a4 0 a0_0 a0_1 a0_2 l0_3 tz0 tz1 tz2 tz5) = some (r1, r2, r3, r4) := H
 have A6 := mk A60
 clear A60
 have H' := mk H
 clear H
 go_enter Try.func123, Try.ntmps123
 go_wp2_with (first | ((with_reducible refine gate_dst (N := 5) rfl ?_); refine box_event (by rfl) (N := 5) (by rfl) (cs := #[.int .i64 a0_0, .int .i64 a0_1, .int .i64 a0_2, .slice A0_3 l0_3.length c0_3]) (t := 27) (by go_simp; done) ?_; intro gbz2 hg w7 hbox hb; replace HB := mk (below_step HB.out hb); have BKz0 := mk (hbox); clear hb hbox hg) | ((with_reducible refine gate_dst (N := 10) rfl ?_); refine box_event (by rfl) (N := 10) (by rfl) (cs := #[.int .i64 0, .int .i64 0, .int .i64 0, .slice none 0 0]) (t := 27) (by go_simp; done) ?_; intro gbz1 hg w8 hbox hb; replace BKz0 := mk (blk_below BKz0.out hb); have BKz2 := mk (hbox); have GEz0 := mk ((by rw [hg]; exact (below_size HB.out) : w.heap.size ≤ gbz1)); replace HB := mk (below_step HB.out hb); clear hb hbox hg; obtain ⟨hcz10_0, hcz10_1, hcz10_2, hcz10_3, hfz10_0, hfz10_1, hfz10_2, -⟩ := c4 BKz0.out; have hfz10_3 := blk_frozen BKz0.out 3) | ((with_reducible refine gate_callee (f := 111) rfl ?_); refine goesL_ (some 18) rfl rfl Try.func111 (by kernel_rfl) rfl #[.int .i64 a3, .int .i64 a4, .int .i64 a0_2] rfl (by (try simp only [bitvec_to_nat]); rfl) ?_; (with_reducible refine (spec_newImage.calls a3 a4 a0_2 tz0 tz1 tz2 tz5 _ A6.out).mono ?_); rintro e w11 ⟨vz0, rfl, ho0, hb⟩; refine ⟨_, rfl, ?_⟩; have HOz2 := mk (Kd.R_lower ho0 (below_size HB.out)); replace BKz0 := mk (blk_below BKz0.out hb); replace BKz2 := mk (blk_below BKz2.out hb); replace HB := mk (below_step HB.out hb); (try clear hb); (try clear ho0)) | ((with_reducible refine gate_dst (N := 11) rfl ?_); refine box_event (by rfl) (N := 11) (by rfl) (cs := #[.int .i64 0, .int .i64 0, .int .i64 0, .slice none 0 0]) (t := 27) (by go_simp; done) ?_; intro gbz0 hg w12 hbox hb; replace HOz2 := mk (Kd.R_below HOz2.out hb); have BKz1 := mk (hbox); have GEz1 := mk ((by rw [hg]; exact (below_size HB.out) : w.heap.size ≤ gbz0)); replace HB := mk (below_step HB.out hb); have NBz0 := mk ((by rw [hg]; exact Nat.ne_of_lt (blk_lt BKz0.out) : gbz2 ≠ gbz0)); replace BKz0 := mk (blk_below BKz0.out hb); have NBz1 := mk ((by rw [hg]; exact Nat.ne_of_lt (blk_lt BKz2.out) : gbz1 ≠ gbz0)); replace BKz2 := mk (blk_below BKz2.out hb); clear hb hbox hg; obtain ⟨hcz15_0, hcz15_1, hcz15_2, hcz15_3, hfz15_0, hfz15_1, hfz15_2, hfz15_3⟩ := c4 BKz1.out; obtain ⟨Ao16, co16, eo16⟩ := Kd.R_slice HOz2.out; subst eo16))
 go_loopg [12] k (fun kq v12 w' => ∃ (x12_1 : Int) (xz1 : List Int) (u124010003 : Value), v12 = .int .i64 x12_1 ∧ Aside0 (spec_crop.l0 kq a1 a2 a3 a4 x12_1 a0_0 a0_1 a0_2 l0_3 tz0 tz1 tz2 xz1 = some (r1, r2, r3, r4)) ∧ Aside0 (kq ≤ k) ∧ Aside0 (Kd.R (Kd.int .i64) 3 w' w.heap.size (fun _ => True) u124010003 xz1) ∧ Aside0 (w'.heap[gbz2]? = some (.cells #[.int .i64 a0_0, .int .i64 a0_1, .int .i64 a0_2, (.slice A0_3 l0_3.length c0_3)] 27 (0, 0))) ∧ Aside0 (w'.heap[gbz1]? = some (.cells #[.int .i64 0, .int .i64 0, .int .i64 0, (.slice none 0 0)] 27 (0, 0))) ∧ Aside0 (w'.heap[gbz0]? = some (.cells #[.int .i64 tz0, .int .i64 tz1, .int .i64 tz2, u124010003] 27 (0, 0))) ∧ Aside0 (Below w.heap.size w w'))
 case atStart => exact ⟨(0), (tz5), (.slice Ao16 tz5.length co16), (by rfl), H', ⟨Nat.le_refl _⟩, ⟨by exact Kd.R_mono (Kd.R_far (p := ⟨gbz0, 3, none⟩) (Kd.R_far (p := ⟨gbz0, 2, none⟩) (Kd.R_far (p := ⟨gbz0, 1, none⟩) (Kd.R_far (p := ⟨gbz0, 0, none⟩) (Kd.R_types HOz2.out BKz1.out (by decide)) (fun _ hk => hk.2) (.int .i64 tz0)) (fun _ hk => hk.2) (.int .i64 tz1)) (fun _ hk => hk.2) (.int .i64 tz2)) (fun _ hk => hk.2) (.slice Ao16 tz5.length co16)) (fun _ hk => trivial)⟩, ⟨by refine blk_far ?_ NBz0.out _; refine blk_far ?_ NBz0.out _; refine blk_far ?_ NBz0.out _; refine blk_far ?_ NBz0.out _; exact BKz0.out⟩, ⟨by refine blk_far ?_ NBz1.out _; refine blk_far ?_ NBz1.out _; refine blk_far ?_ NBz1.out _; refine blk_far ?_ NBz1.out _; exact BKz2.out⟩, ⟨by refine blk_put (cs := #[.int .i64 tz0, .int .i64 tz1, .int .i64 tz2, .slice none 0 0]) ?_ 3 _ rfl; refine blk_put (cs := #[.int .i64 tz0, .int .i64 tz1, .int .i64 0, .slice none 0 0]) ?_ 2 _ rfl; refine blk_put (cs := #[.int .i64 tz0, .int .i64 0, .int .i64 0, .slice none 0 0]) ?_ 1 _ rfl; refine blk_put (cs := #[.int .i64 0, .int .i64 0, .int .i64 0, .slice none 0 0]) ?_ 0 _ rfl; exact BKz1.out⟩, ⟨by repeat (with_reducible first | exact HB.out | refine below_set ?_ GEz1.out)⟩⟩
 case round =>
  clear H'
  obtain ⟨x12_1, xz1, u124010003, rfl, HA, HK1, HOz0, BKz0, BKz2, BKz1, HB⟩ := hrel
  cases gk with
  | zero => exact absurd HA.out (by simp [spec_crop.l0])
  | succ k1 =>
   have H := HA.out
   clear HA
   simp only [spec_crop.l0] at H
   by_cases c17 : x12_1 < a4
   ·rw [if_pos c17] at H
    have c17b0 : decide (x12_1 < a4) = true := decide_eq_true c17
    clear c17
    have H' := mk H
    clear H
    go_wp2
    go_loopg [13] k1 (fun kq v13 w' => ∃ (x13_2 : Int) (xz0 : List Int) (u124010003 : Value), v13 = .int .i64 x13_2 ∧ Aside0 (spec_crop.l1 kq a1 a2 a3 a4 x12_1 x13_2 a0_0 a0_1 a0_2 l0_3 tz0 tz1 tz2 xz0 = some (r1, r2, r3, r4)) ∧ Aside0 (kq ≤ k1) ∧ Aside0 (Kd.R (Kd.int .i64) 3 w' w.heap.size (fun _ => True) u124010003 xz0) ∧ Aside0 (w'.heap[gbz2]? = some (.cells #[.int .i64 a0_0, .int .i64 a0_1, .int .i64 a0_2, (.slice A0_3 l0_3.length c0_3)] 27 (0, 0))) ∧ Aside0 (w'.heap[gbz1]? = some (.cells #[.int .i64 0, .int .i64 0, .int .i64 0, (.slice none 0 0)] 27 (0, 0))) ∧ Aside0 (w'.heap[gbz0]? = some (.cells #[.int .i64 tz0, .int .i64 tz1, .int .i64 tz2, u124010003] 27 (0, 0))) ∧ Aside0 (Below w.heap.size w w'))
    case atStart => exact ⟨(0), (xz1), (u124010003), (by rfl), H', ⟨Nat.le_refl _⟩, HOz0, BKz0, BKz2, BKz1, HB⟩
    case round =>
     clear H'
     obtain ⟨x13_2, xz0, u124010003, rfl, HA, HK2, HOz0, BKz0, BKz2, BKz1, HB⟩ := hrel
     cases gk with
     | zero => exact absurd HA.out (by simp [spec_crop.l1])
     | succ k2 =>
      have H := HA.out
      clear HA
      simp only [spec_crop.l1] at H
      by_cases c18 : x13_2 < a3
      ·rw [if_pos c18] at H
       have c18b0 : decide (x13_2 < a3) = true := decide_eq_true c18
       clear c18
       replace H := Option.bind_eq_some_iff.mp H
       obtain ⟨tz4, A190, H⟩ := H
       replace H : ((spec_setPixel.f k2 tz0 tz1 tz2 xz0 x13_2 x12_1 tz4).bind fun tz3 => (spec_crop.l1 k2 a1 a2 a3 a4 x12_1 (wrap64 (x13_2 + 1)) a0_0 a0_1 a0_2 l0_3 tz0 tz1 tz2 tz3)) = some (r1, r2, r3, r4) := H
       have A19 := mk A190
       clear A190
       replace H := Option.bind_eq_some_iff.mp H
       obtain ⟨tz3, A200, H⟩ := H
       replace H : (spec_crop.l1 k2 a1 a2 a3 a4 x12_1 (wrap64 (x13_2 + 1)) a0_0 a0_1 a0_2 l0_3 tz0 tz1 tz2 tz3) = some (r1, r2, r3, r4) := H
       have A20 := mk A200
       clear A200
       have H' := mk H
       clear H
       try go_wp2
       replace HOz0 := mk (Kd.R_drew HOz0.out)
       replace BKz0 := mk (blk_drew BKz0.out)
       replace BKz2 := mk (blk_drew BKz2.out)
       replace BKz1 := mk (blk_drew BKz1.out)
       replace HB := mk (below_drew1 HB.out)
       refine start_ (n := 12) (S := fun w' => w'.cell? ⟨gbz0, 0, none⟩ = some (.int .i64 tz0) ∧ w'.cell? ⟨gbz0, 1, none⟩ = some (.int .i64 tz1) ∧ w'.cell? ⟨gbz0, 2, none⟩ = some (.int .i64 tz2) ∧ w'.cell? ⟨gbz0, 3, none⟩ = some u124010003 ∧ w'.cell? ⟨gbz2, 0, none⟩ = some (.int .i64 a0_0) ∧ w'.cell? ⟨gbz2, 1, none⟩ = some (.int .i64 a0_1) ∧ w'.cell? ⟨gbz2, 2, none⟩ = some (.int .i64 a0_2) ∧ w'.cell? ⟨gbz2, 3, none⟩ = some (.slice A0_3 l0_3.length c0_3)) (ds := []) #[false, false, false, false, false, false, false, false, false, false, false, false] (by kernel_rfl) rfl rfl ⟨blk_cell BKz1.out 0, blk_cell BKz1.out 1, blk_cell BKz1.out 2, blk_cell BKz1.out 3, blk_cell BKz0.out 0, blk_cell BKz0.out 1, blk_cell BKz0.out 2, blk_cell BKz0.out 3⟩ (fun hHeld => ?_); refine with_tabW spec_crop.tab8 spec_crop.bits8 (fun HT_ HW_ => ?_)
       generalize wr.drew = w21 at HOz0 BKz0 BKz2 BKz1 HB hHeld ⊢
       refine pu 1 30 ?_ ?_ rfl rfl (any_of HT_.out (by kernel_rfl)) (Or.inl ⟨by rfl, ?_⟩) ?_ ?_
       rotate_left 2
       ·intro w'
        go_simp
        with_reducible rfl
       ·simp only [seval]
        rfl
       refine pu 2 31 ?_ ?_ rfl rfl (any_of HT_.out (by kernel_rfl)) (Or.inl ⟨by rfl, ?_⟩) ?_ ?_
       rotate_left 2
       ·intro w'
        go_simp
        with_reducible rfl
       ·simp only [seval]
        rfl
       refine pu 4 33 ?_ ?_ rfl rfl (any_of HT_.out (by kernel_rfl)) (Or.inl ⟨by rfl, ?_⟩) ?_ ?_
       rotate_left 2
       ·intro w'
        go_simp
        with_reducible rfl
       ·simp only [seval]
        rfl
       refine pu 5 34 ?_ ?_ rfl rfl (any_of HT_.out (by kernel_rfl)) (Or.inl ⟨by rfl, ?_⟩) ?_ ?_
       rotate_left 2
       ·intro w'
        go_simp
        with_reducible rfl
       ·simp only [seval]
        rfl
       refine pu 6 35 ?_ ?_ rfl rfl (any_of HT_.out (by kernel_rfl)) (Or.inl ⟨by rfl, ?_⟩) ?_ ?_
       rotate_left 2
       ·intro w'
        go_simp
        with_reducible rfl
       ·simp only [seval]
        rfl
       refine pu 7 36 ?_ ?_ rfl rfl (any_of HT_.out (by kernel_rfl)) (Or.inl ⟨by rfl, ?_⟩) ?_ ?_
       rotate_left 2
       ·intro w'
        go_simp
        with_reducible rfl
       ·simp only [seval]
        rfl
       refine pu 8 37 ?_ ?_ rfl rfl (any_of HT_.out (by kernel_rfl)) (Or.inl ⟨by rfl, ?_⟩) ?_ ?_
       rotate_left 2
       ·intro w'
        go_simp
        with_reducible rfl
       ·simp only [seval]
        rfl
       refine pu 9 38 ?_ ?_ rfl rfl (any_of HT_.out (by kernel_rfl)) (Or.inl ⟨by rfl, ?_⟩) ?_ ?_
       rotate_left 2
       ·intro w'
        go_simp
        with_reducible rfl
       ·simp only [seval]
        rfl
       refine tk 0 29 ?_ ?_ rfl rfl (take_ofW HT_.out HW_.out (by kernel_rfl)) (Or.inl ⟨by rfl, ?_⟩) hHeld ?_ ?_
       rotate_left 2
       ·rintro w' ⟨s0, s1, s2, s3, s4, s5, s6, s7⟩
        go_simp
        with_reducible rfl
       ·simp only [seval]
        rfl
       refine tk 3 32 ?_ ?_ rfl rfl (take_ofW HT_.out HW_.out (by kernel_rfl)) (Or.inl ⟨by rfl, ?_⟩) hHeld ?_ ?_
       rotate_left 2
       ·rintro w' ⟨s0, s1, s2, s3, s4, s5, s6, s7⟩
        go_simp
        with_reducible rfl
       ·simp only [seval]
        rfl
       refine one_ (i := 10) (N := some 39) #[true, true, true, true, true, true, true, true, true, true, true, false] rfl rfl (one_of HT_.out (by kernel_rfl)) (by decide) (fun K hK => ?_)
       refine goes_ Try.func149 (by kernel_rfl) rfl #[.agg #[.int .i64 a0_0, .int .i64 a0_1, .int .i64 a0_2, .slice A0_3 l0_3.length c0_3], .int .i64 (wrap64 (a1 + x13_2)), .int .i64 (wrap64 (a2 + x12_1))] (by rfl) rfl rfl (by (try simp only [bitvec_to_nat]); rfl) ?_
       with_reducible refine (spec_pixelAt.calls a0_0 a0_1 a0_2 _ _ l0_3 (wrap64 (a1 + x13_2)) (wrap64 (a2 + x12_1)) tz4 _ ?side1 ?side2 A19.out).mono ?_
       (case side1 => repeat (exact (Kd.C_below HR0_3.out HB.out)))
       (case side2 => exact HC0_3.out)
       rintro e w22 ⟨vz1, rfl, ho0, hb⟩
       refine ⟨_, rfl, ?_⟩
       have HOz1 := mk (Kd.R_lower (Kd.R_new' ho0 (Kd.R_lt HOz0.out)) (below_size HB.out))
       replace HOz0 := mk (Kd.R_elder' HOz0.out (Kd.R_base ho0) hb)
       replace BKz0 := mk (blk_below BKz0.out hb)
       replace BKz2 := mk (blk_below BKz2.out hb)
       replace BKz1 := mk (blk_below BKz1.out hb)
       replace HB := mk (below_step HB.out hb)
       (try clear hb)
       (try clear ho0)
       obtain ⟨Ao23, co23, eo23⟩ := Kd.R_slice HOz0.out
       (subst eo23)
       obtain ⟨Ao24, co24, eo24⟩ := Kd.R_slice HOz1.out
       (subst eo24)
       refine hK.out _ _ ⟨blk_cell BKz1.out 0, blk_cell BKz1.out 1, blk_cell BKz1.out 2, blk_cell BKz1.out 3, blk_cell BKz0.out 0, blk_cell BKz0.out 1, blk_cell BKz0.out 2, blk_cell BKz0.out 3⟩ (fun hHeld => ?_)
       clear hK K
       refine norm_ (a' := ?_) ?_ ?_
       rotate_left
       ·show Act.put _ (some 39) _ = _
        simp only [seval]
        rfl
       refine one_ (i := 11) (N := some 40) #[true, true, true, true, true, true, true, true, true, true, true, true] rfl rfl (one_of HT_.out (by kernel_rfl)) (by decide) (fun K hK => ?_)
       refine goes_ Try.func148 (by kernel_rfl) rfl #[.agg #[.int .i64 tz0, .int .i64 tz1, .int .i64 tz2, .slice Ao23 xz0.length co23], .int .i64 x13_2, .int .i64 x12_1, .slice Ao24 tz4.length co24] (by rfl) rfl rfl (by (try simp only [bitvec_to_nat]); rfl) ?_
       with_reducible refine (spec_setPixel.calls k2 tz0 tz1 tz2 (fun k_ => some k_ = (.slice Ao23 xz0.length co23 : Value).ownBlock) (.slice Ao23 xz0.length co23) xz0 x13_2 x12_1 _ _ tz4 tz3 w _ ?side1 ?side2 ?side3 ?side4 A20.out).mono ?_
       (case side1 => repeat (with_reducible exact HB.out))
       (case side2 => exact Kd.R_tight rfl HOz0.out)
       (case side3 => exact Kd.C_kept_own HOz1.out (fun k_ hk_ hs_ => hk_.2 hs_))
       (case side4 => exact (Kd.R_reads' HOz1.out).2.1)
       rintro e w25 ⟨rfl, hy0, hb, hkp⟩
       refine ⟨_, rfl, ?_⟩
       replace BKz0 := mk (blk_kept BKz0.out hkp (fun hs_ => (fun e_ => (Kd.R_ne HOz0.out BKz0.out (by decide)) e_) hs_))
       replace BKz2 := mk (blk_kept BKz2.out hkp (fun hs_ => (fun e_ => (Kd.R_ne HOz0.out BKz2.out (by decide)) e_) hs_))
       replace BKz1 := mk (blk_kept BKz1.out hkp (fun hs_ => (fun e_ => (Kd.R_ne HOz0.out BKz1.out (by decide)) e_) hs_))
       replace HOz0 := mk (Kd.R_reok rfl hy0 (fun k_ e_ => HOz0.out.1 k_ e_))
       replace HOz1 := mk (Kd.R_mono (ok' := fun k_ => some k_ ≠ (.slice Ao23 xz0.length co23 : Value).ownBlock) (Kd.R_keptB HOz1.out hkp (fun k_ hk_ hs_ => hk_.2 hs_)) (fun k_ hk_ => hk_.1.2))
       replace HB := mk (hb)
       (try clear hb)
       (try clear hkp)
       (try clear hy0)
       refine hK.out _ _ ⟨blk_cell BKz1.out 0, blk_cell BKz1.out 1, blk_cell BKz1.out 2, blk_cell BKz1.out 3, blk_cell BKz0.out 0, blk_cell BKz0.out 1, blk_cell BKz0.out 2, blk_cell BKz0.out 3⟩ (fun hHeld => ?_)
       clear hK K
       refine norm_ (a' := ?_) ?_ ?_
       rotate_left
       ·show Act.put _ (some 40) _ = _
        simp only [seval]
        rfl
       refine done_ (done_of HT_.out (by kernel_rfl)) ?_
       try go_wp2
       go_roundg k2
       case measure => have := HK1.out; have := HK2.out; omega
       case rel => exact ⟨(wrap64 (x13_2 + 1)), (tz3), (.slice Ao23 xz0.length co23), (by rfl), H', ⟨by have := HK1.out; have := HK2.out; omega⟩, ⟨by exact Kd.R_mono HOz0.out (fun _ hk => trivial)⟩, BKz0, BKz2, BKz1, HB⟩
      rw [if_neg c18] at H
      have c18b0 : decide (x13_2 < a3) = false := decide_eq_false c18
      clear c18
      have H' := mk H
      clear H
      go_wp2
      go_roundg k2
      case measure => have := HK1.out; have := HK2.out; omega
      case rel => exact ⟨(wrap64 (x12_1 + 1)), (xz0), (u124010003), (by rfl), H', ⟨by have := HK1.out; have := HK2.out; omega⟩, HOz0, BKz0, BKz2, BKz1, HB⟩
   rw [if_neg c17] at H
   have c17b0 : decide (x12_1 < a4) = false := decide_eq_false c17
   clear c17
   simp only [Option.some.injEq, Prod.mk.injEq] at H
   obtain ⟨rfl, rfl, rfl, rfl⟩ := H
   obtain ⟨hcz28_0, hcz28_1, hcz28_2, -⟩ := c4 BKz1.out
   have hcz28_3 : wr.cell? ⟨gbz0, 3, none⟩ = some u124010003 := (blk_cell BKz1.out 3).trans rfl
   obtain ⟨hcz30_0, hcz30_1, hcz30_2, hcz30_3, hfz30_0, hfz30_1, hfz30_2, hfz30_3⟩ := c4 BKz2.out
   obtain ⟨Ao31, co31, eo31⟩ := Kd.R_slice HOz0.out
   subst eo31
   go_wp2
   refine bodyPost_ret (results_cell_row rfl _ _ gbz1 27 #[.int .i64 tz0, .int .i64 tz1, .int .i64 tz2, .slice Ao31 xz1.length co31] (0, 0) _ rfl (by refine blk_put (cs := #[.int .i64 tz0, .int .i64 tz1, .int .i64 tz2, .slice none 0 0]) ?_ 3 _ rfl; refine blk_put (cs := #[.int .i64 tz0, .int .i64 tz1, .int .i64 0, .slice none 0 0]) ?_ 2 _ rfl; refine blk_put (cs := #[.int .i64 tz0, .int .i64 0, .int .i64 0, .slice none 0 0]) ?_ 1 _ rfl; refine blk_put (cs := #[.int .i64 0, .int .i64 0, .int .i64 0, .slice none 0 0]) ?_ 0 _ rfl; exact BKz2.out) Try.underlying27 rfl (by kernel_rfl)) rfl ?_
   exact ⟨_, by rfl, by exact Kd.R_mono (Kd.R_far (p := ⟨gbz1, 3, none⟩) (Kd.R_far (p := ⟨gbz1, 2, none⟩) (Kd.R_far (p := ⟨gbz1, 1, none⟩) (Kd.R_far (p := ⟨gbz1, 0, none⟩) (Kd.R_types HOz0.out BKz2.out (by decide)) (fun _ hk => hk.2) (.int .i64 tz0)) (fun _ hk => hk.2) (.int .i64 tz1)) (fun _ hk => hk.2) (.int .i64 tz2)) (fun _ hk => hk.2) (.slice Ao31 xz1.length co31)) (fun _ hk => trivial), by repeat (with_reducible first | exact HB.out | refine below_set ?_ GEz0.out)⟩

end Go.Proofs.Ytnofkbbcbpjhfaa.Q
