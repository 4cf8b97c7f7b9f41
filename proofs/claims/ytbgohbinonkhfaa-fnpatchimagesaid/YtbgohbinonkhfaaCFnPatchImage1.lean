/- A part of the proof that the statement FnPatchImageSaid holds, under no condition of its own: Patches carry all changes: the law FnPatchImage over lists of numbers alone. -/
import Derived.Test.YtbgohbinonkhfaaProg
import Derived.Below
import Derived.Deep.Draws
import Derived.Deep.AppendLies
import Derived.Maps.AppendAt
import Derived.OwnWalk
import Derived.Laws.BytesArg
import Derived.Laws.MakeOwn
import Derived.Laws.OwnMore
import Derived.Deep.OwnRows
import Derived.Tactics
import Derived.Lib.ConvBytes
import Derived.Laws.Slices
import Derived.WalkKit
import Derived.KernelRfl
import Derived.RowKit3
import Derived.Deep.LoopGhost
import Derived.Deep.QuietTactic
import Derived.BigQuiet
import Derived.WideLaws
import Derived.Deep.DeepCutAuto
import Derived.Deep.CutBlock
import Derived.Deep.RegionHeld3
import Derived.Laws.Rows
import Derived.Lib.AppendStr
import Derived.ArgAppend
import Derived.Laws.IdiomCopy
import Derived.OrdersHeld
import Derived.Laws.BitsLemmas
import Derived.RowKit
import Derived.Test.YtbgohbinonkhfaaCFnPatchImageW1
import Derived.Shelf.Abstract
import Derived.Deep.WholeRow
import Derived.Deep.RegionWith
namespace Go.Proofs.Ytbgohbinonkhfaa.Q
open Go.RowKit Go.Proofs.YtbgohbinonkhfaaW.PrintWords Go.Proofs.YtbgohbinonkhfaaW.PrintLast Go.Proofs.YtbgohbinonkhfaaW.PrintMore
attribute [local go_sem] max2_int min2_int max_two min_two max_three min_three max_four min_four
set_option linter.unusedVariables false
set_option linter.unusedSimpArgs false
open Go.Proofs.YtbgohbinonkhfaaW.PrintWords.Aside0 (mk)
set_option maxHeartbeats 12000000
set_option maxRecDepth 100000
def errW : Option Int → Value
  | none => .nilIface
  | some c => .iface 0 (.int .i64 c)
theorem errW_none : errW none = .nilIface := rfl
theorem errW_some (c : Int) : errW (some c) = .iface 0 (.int .i64 c) := rfl
theorem info3 : (Try.prog.info? 3).map (fun i => (i.zero, i.size, i.bytes)) = some (some (.int .i64 0), 1, 8) := by kernel_rfl
theorem info4 : (Try.prog.info? 4).map (fun i => (i.zero, i.size, i.bytes)) = some (some (.bool false), 1, 1) := by kernel_rfl
theorem info5 : (Try.prog.info? 5).map (fun i => (i.zero, i.size, i.bytes)) = some (some (.int .u8 0), 1, 1) := by kernel_rfl
theorem info26 : (Try.prog.info? 26).map (fun i => (i.zero, i.size, i.bytes)) = some (some (.slice none 0 0), 1, 24) := by kernel_rfl
theorem info47 : (Try.prog.info? 47).map (fun i => (i.zero, i.size, i.bytes)) = some (some (.agg #[(.int .i64 0), (.int .i64 0), (.int .i64 0)]), 3, 24) := by kernel_rfl
theorem info60 : (Try.prog.info? 60).map (fun i => (i.zero, i.size, i.bytes)) = some (some (.agg #[(.int .i64 0), (.int .i64 0), (.int .i64 0), (.int .i64 0)]), 4, 32) := by kernel_rfl
structure S7 where
  f0 : Int
  f1 : Int
  f2 : Bool
  f3 : Int
structure S8 where
  f0 : Int
  f1 : Int
  f2 : Bool
  f3 : Int
structure S13 where
  f0 : ByteArray
  f1 : Int
structure S14 where
  f0 : ByteArray
  f1 : Int
structure S23 where
  f0 : Int
  f1 : Int
  f2 : Int
  f3 : (List Int)
structure S24 where
  f0 : Int
  f1 : Int
  f2 : Int
  f3 : (List Int)
structure S47 where
  f0 : Int
  f1 : Int
  f2 : Int
def z47 : S47 := ⟨(0 : Int), (0 : Int), (0 : Int)⟩
def k47 : Kd S47 := Kd.iso (Kd.pair (Kd.int .i64) (Kd.pair (Kd.int .i64) (Kd.int .i64))) (fun x : S47 => (x.f0, x.f1, x.f2))
theorem k47_open {w : World} {x : S47} {cs : List Value} (h : k47.K w x cs) : cs = [.int .i64 x.f0, .int .i64 x.f1, .int .i64 x.f2] := by
  obtain ⟨_, _, rfl, rfl, ⟨_, _, rfl, rfl, rfl⟩⟩ := h
  exact rfl
theorem k47_mkM (w : World) (base : Nat) (ok : Nat → Prop) (x : S47)  : k47.M w base ok x [.int .i64 x.f0, .int .i64 x.f1, .int .i64 x.f2] := ⟨[.int .i64 x.f0], [.int .i64 x.f1, .int .i64 x.f2], rfl, rfl, ⟨[.int .i64 x.f1], [.int .i64 x.f2], rfl, rfl, rfl⟩⟩
def rd_T47 (xs : List S47) (i : Int) : S47 := xs.getD i.toNat z47
theorem at_T47 {w : World} {A : Option Addr} {n : Nat} {xs : List S47} (h : Kd.C k47 w A n xs) (i : Int) (h0 : 0 ≤ i) (h1 : i < n) : ∃ ad , A = some ad ∧ w.cell? (ad.add (i.toNat * 3)) = some (.int .i64 (rd_T47 xs i).f0) ∧ w.cell? ⟨(ad.add (i.toNat * 3)).block, (ad.add (i.toNat * 3)).off + 1, none⟩ = some (.int .i64 (rd_T47 xs i).f1) ∧ w.cell? ⟨(ad.add (i.toNat * 3)).block, (ad.add (i.toNat * 3)).off + 2, none⟩ = some (.int .i64 (rd_T47 xs i).f2) := by
  obtain ⟨ad, c, e, _, hK, hc0⟩ := Kd.C_get h z47 i h0 h1
  have hc : ∀ j u, c[j]? = some u → w.cell? (ad.add (i.toNat * 3 + j)) = some u := hc0
  obtain rfl := k47_open hK
  exact ⟨ad, e, hc 0 _ rfl, by rw [← add_field _ _ 1 (by omega)]; exact hc 1 _ rfl, by rw [← add_field _ _ 2 (by omega)]; exact hc 2 _ rfl⟩

def rd_L13 (xs : List (List S47)) (i : Int) : (List S47) := xs.getD i.toNat ([] : List S47)
theorem at_L13 {w : World} {A : Option Addr} {n : Nat} {xs : List (List S47)} (h : Kd.C (Kd.slice 47 k47) w A n xs) (i : Int) (h0 : 0 ≤ i) (h1 : i < n) : ∃ ad A0 c0, A = some ad ∧ w.cell? (ad.add i.toNat) = some (.slice A0 (rd_L13 xs i).length c0) ∧ (rd_L13 xs i).length ≤ c0 ∧ k47.C w A0 (rd_L13 xs i).length (rd_L13 xs i) := by
  obtain ⟨ad, c, e, _, hK, hc0⟩ := Kd.C_get h ([] : List S47) i h0 h1
  have hc : ∀ j u, c[j]? = some u → w.cell? (ad.add (i.toNat * 1 + j)) = some u := hc0
  obtain ⟨A0, c0, rfl, l0, g0⟩ := hK
  exact ⟨ad, A0, c0, e, by have hq := hc 0 _ rfl; rwa [Nat.mul_one, Nat.add_zero] at hq, l0, g0⟩

structure S28 where
  f0 : Int
  f1 : Int
  f2 : Int
  f3 : (List Int)
structure S46 where
  f0 : Int
  f1 : Int
  f2 : Int
structure S60 where
  f0 : Int
  f1 : Int
  f2 : Int
  f3 : Int
def z60 : S60 := ⟨(0 : Int), (0 : Int), (0 : Int), (0 : Int)⟩
def k60 : Kd S60 := Kd.iso (Kd.pair (Kd.int .i64) (Kd.pair (Kd.int .i64) (Kd.pair (Kd.int .i64) (Kd.int .i64)))) (fun x : S60 => (x.f0, x.f1, x.f2, x.f3))
theorem k60_open {w : World} {x : S60} {cs : List Value} (h : k60.K w x cs) : cs = [.int .i64 x.f0, .int .i64 x.f1, .int .i64 x.f2, .int .i64 x.f3] := by
  obtain ⟨_, _, rfl, rfl, ⟨_, _, rfl, rfl, ⟨_, _, rfl, rfl, rfl⟩⟩⟩ := h
  exact rfl
theorem k60_mkM (w : World) (base : Nat) (ok : Nat → Prop) (x : S60)  : k60.M w base ok x [.int .i64 x.f0, .int .i64 x.f1, .int .i64 x.f2, .int .i64 x.f3] := ⟨[.int .i64 x.f0], [.int .i64 x.f1, .int .i64 x.f2, .int .i64 x.f3], rfl, rfl, ⟨[.int .i64 x.f1], [.int .i64 x.f2, .int .i64 x.f3], rfl, rfl, ⟨[.int .i64 x.f2], [.int .i64 x.f3], rfl, rfl, rfl⟩⟩⟩
def rd_T60 (xs : List S60) (i : Int) : S60 := xs.getD i.toNat z60
theorem at_T60 {w : World} {A : Option Addr} {n : Nat} {xs : List S60} (h : Kd.C k60 w A n xs) (i : Int) (h0 : 0 ≤ i) (h1 : i < n) : ∃ ad , A = some ad ∧ w.cell? (ad.add (i.toNat * 4)) = some (.int .i64 (rd_T60 xs i).f0) ∧ w.cell? ⟨(ad.add (i.toNat * 4)).block, (ad.add (i.toNat * 4)).off + 1, none⟩ = some (.int .i64 (rd_T60 xs i).f1) ∧ w.cell? ⟨(ad.add (i.toNat * 4)).block, (ad.add (i.toNat * 4)).off + 2, none⟩ = some (.int .i64 (rd_T60 xs i).f2) ∧ w.cell? ⟨(ad.add (i.toNat * 4)).block, (ad.add (i.toNat * 4)).off + 3, none⟩ = some (.int .i64 (rd_T60 xs i).f3) := by
  obtain ⟨ad, c, e, _, hK, hc0⟩ := Kd.C_get h z60 i h0 h1
  have hc : ∀ j u, c[j]? = some u → w.cell? (ad.add (i.toNat * 4 + j)) = some u := hc0
  obtain rfl := k60_open hK
  exact ⟨ad, e, hc 0 _ rfl, by rw [← add_field _ _ 1 (by omega)]; exact hc 1 _ rfl, by rw [← add_field _ _ 2 (by omega)]; exact hc 2 _ rfl, by rw [← add_field _ _ 3 (by omega)]; exact hc 3 _ rfl⟩

structure S59 where
  f0 : Int
  f1 : Int
  f2 : Int
  f3 : Int
structure S99 where
  f0 : (List Int)
  f1 : Int
structure S100 where
  f0 : (List Int)
  f1 : Int

/- Words of this session's own hand-made walks: where the first element lies for which a test holds; draws that follow each other. -/

theorem dtrans {a b c : World} (h : Drawn0 a b) (k : Drawn0 b c) : Drawn0 a c := by
  obtain ⟨n, rfl⟩ := k
  exact h.step n

/-- where the first element is for which p holds; -1 -/
def idxF {α : Type} (p : α → Bool) : List α → Int
  | [] => -1
  | x :: xs => if p x then 0 else (let r := idxF p xs; if r < 0 then -1 else r + 1)
theorem idxF_any {α : Type} (p : α → Bool) (l : List α) : decide (idxF p l ≥ 0) = l.any p := by
  induction l with
  | nil => simp [idxF]
  | cons x xs ih =>
    unfold idxF
    by_cases h : p x = true
    · simp [h]
    · simp only [h, List.any_cons, Bool.false_or, ← ih]
      simp only [Bool.false_eq_true, if_false]
      split
      · simp; omega
      · simp; omega
/-- p fails at all that lies before k -/
def SawNone {α : Type} (p : α → Bool) (l : List α) (k : Nat) : Prop := ∀ j, j < k → ∀ h : j < l.length, p l[j] = false
theorem SawNone.succ {α : Type} {p : α → Bool} {l : List α} {k : Nat} (h : SawNone p l k) (hk : k < l.length) (hp : p l[k] = false) : SawNone p l (k + 1) := by
  intro j hj hl
  by_cases e : j = k
  · subst e; exact hp
  · exact h j (by omega) hl
theorem idxF_at {α : Type} (p : α → Bool) (l : List α) (k : Nat) (hk : k < l.length) (hs : SawNone p l k) (hp : p l[k] = true) : idxF p l = k := by
  induction l generalizing k with
  | nil => simp at hk
  | cons x xs ih =>
    unfold idxF
    cases k with
    | zero => simp at hp; simp [hp]
    | succ k =>
      have h0 : p x = false := hs 0 (by omega) (by simp)
      have := ih k (by simpa using hk) (fun j hj h => hs (j + 1) (by omega) (by simpa using h)) (by simpa using hp)
      simp [h0, this]; omega
theorem idxF_none {α : Type} (p : α → Bool) (l : List α) (hs : SawNone p l l.length) : idxF p l = -1 := by
  induction l with
  | nil => rfl
  | cons x xs ih =>
    unfold idxF
    have h0 : p x = false := hs 0 (by simp) (by simp)
    have := ih (fun j hj h => hs (j + 1) (by simpa using hj) (by simpa using h))
    simp [h0, this]
theorem rd_get (l : List Int) (k : Nat) (hk : k < l.length) : rd l k = l[k] := by simp [rd, hk]
theorem ret_bool {a b : Bool} (h : a = b) : Ending.returned (.bool a) = .returned (.bool b) := by rw [h]
theorem R_empty {α : Type} (d : Kd α) (e base : Nat) (W : World) (hb : base ≤ W.heap.size) : d.R e (W.alloc (.cells #[] e)) base (fun _ => True) (.slice (some ⟨W.heap.size, 0, none⟩) 0 0) [] :=
  ⟨fun _ _ => trivial, OwnRow.lit (ps := []) (inner := []) W base (Reps.none _ _) hb (by simp)⟩

def slices_Equal_int_int.l0 : Nat → List Int → List Int → Int → Int → Option (Bool)
 | 0, _, _, _, _ => none
 | k + 1, x0, x1, x12, x13 => if x13 < x12 then (if 0 ≤ x13 then (if x13 < (x0.length : Int) then (if x13 < (x1.length : Int) then (if (rd x0 x13) = (rd x1 x13) then (slices_Equal_int_int.l0 k x0 x1 x12 (wrap64 (x13 + 1))) else (some false)) else (none)) else (none)) else (none)) else (some true)
def slices_Equal_int_int.f (k : Nat) (l0 : List Int) (l1 : List Int) : Option (Bool) := if (l0.length : Int) = (l1.length : Int) then (slices_Equal_int_int.l0 k l0 l1 (l0.length : Int) 0) else (some false)
theorem slices_Equal_int_int.calls (k : Nat) (A0 : Option Addr) (c0 : Nat) (l0 : List Int) (A1 : Option Addr) (c1 : Nat) (l1 : List Int) (r : Bool) (w : World) (hr0 : Kd.C (Kd.int .i64) w A0 l0.length l0) (hc0 : l0.length ≤ c0) (hr1 : Kd.C (Kd.int .i64) w A1 l1.length l1) (hc1 : l1.length ≤ c1) (h : slices_Equal_int_int.f k l0 l1 = some r) :
  Calls Try.prog 94 #[.slice A0 l0.length c0, .slice A1 l1.length c1] w fun e w' => e = .returned (.bool r) ∧ Drawn0 w w' := by
 have HR0 := Aside0.mk hr0
 have HC0 := Aside0.mk hc0
 clear hr0 hc0
 have HR1 := Aside0.mk hr1
 have HC1 := Aside0.mk hc1
 clear hr1 hc1
 have H : (if (l0.length : Int) = (l1.length : Int) then (slices_Equal_int_int.l0 k l0 l1 (l0.length : Int) 0) else (some false)) = some r := h
 clear h
 by_cases c3 : (l0.length : Int) = (l1.length : Int)
 ·rw [if_pos c3] at H
  have c3b0 : ((l0.length : Int) == (l1.length : Int)) = true := beq_iff_eq.mpr c3
  have c3b1 : ((l0.length : Int) != (l1.length : Int)) = false := bne_eq_false_iff_eq.mpr c3
  have c3b2 : (l0.length == l1.length) = true := by first | simpa using c3 | (simp at c3 ⊢; omega)
  clear c3
  have H' := Aside0.mk H
  clear H
  go_enter Try.func94, Try.ntmps94
  go_wp2
  repeat (go_quiet (fail); try go_wp2)
  go_loopg [13] k (fun kq v13 w' => ∃ (x13_1 : Int), v13 = .int .i64 x13_1 ∧ Aside0 (slices_Equal_int_int.l0 kq l0 l1 (l0.length : Int) x13_1 = some r) ∧ Aside0 (kq ≤ k) ∧ Drawn0 w w')
  case atStart => exact ⟨(0), (by first | rfl | (simp; done) | (simp [*]; done)), H', ⟨Nat.le_refl _⟩, by repeat (first | exact Drawn0.refl _ | apply Drawn0.step)⟩
  case round =>
   clear H'
   try clear c1
   try clear p2
   try clear c3
   try clear c3b0
   try clear c3b1
   try clear c3b2
   obtain ⟨x13_1, rfl, HA, HK1, ⟨m1, rfl⟩⟩ := hrel
   cases gk with
   | zero => exact absurd HA.out (by simp [slices_Equal_int_int.l0])
   | succ k1 =>
    have H := HA.out
    clear HA
    simp only [slices_Equal_int_int.l0] at H
    by_cases c4 : x13_1 < (l0.length : Int)
    ·rw [if_pos c4] at H
     have c4b0 : decide (x13_1 < (l0.length : Int)) = true := decide_eq_true c4
     clear c4
     by_cases c5 : 0 ≤ x13_1
     ·rw [if_pos c5] at H
      have c5b0 : decide (0 ≤ x13_1) = true := decide_eq_true c5
      clear c5
      by_cases c6 : x13_1 < (l0.length : Int)
      ·rw [if_pos c6] at H
       have c6b0 : decide (x13_1 < (l0.length : Int)) = true := decide_eq_true c6
       clear c6
       by_cases c7 : x13_1 < (l1.length : Int)
       ·rw [if_pos c7] at H
        have c7b0 : decide (x13_1 < (l1.length : Int)) = true := decide_eq_true c7
        clear c7
        by_cases c8 : (rd l0 x13_1) = (rd l1 x13_1)
        ·rw [if_pos c8] at H
         have c8b0 : ((rd l0 x13_1) == (rd l1 x13_1)) = true := beq_iff_eq.mpr c8
         have c8b1 : ((rd l0 x13_1) != (rd l1 x13_1)) = false := bne_eq_false_iff_eq.mpr c8
         clear c8
         have H' := Aside0.mk H
         clear H
         have p95001 : 0 ≤ (x13_1 : Int) := of_decide_eq_true (by first | (with_reducible assumption) | assumption)
         have q95001 : x13_1 < (l0.length : Int) := of_decide_eq_true (by first | (with_reducible assumption) | assumption)
         obtain ⟨ad95001, e95001, hx95001_0⟩ := Kd.at_int HR0.out x13_1 p95001 q95001
         cases e95001
         replace p95001 := eq_true p95001
         replace q95001 := eq_true q95001
         have p95002 : 0 ≤ (x13_1 : Int) := of_decide_eq_true (by first | (with_reducible assumption) | assumption)
         have q95002 : x13_1 < (l1.length : Int) := of_decide_eq_true (by first | (with_reducible assumption) | assumption)
         obtain ⟨ad95002, e95002, hx95002_0⟩ := Kd.at_int HR1.out x13_1 p95002 q95002
         cases e95002
         replace p95002 := eq_true p95002
         replace q95002 := eq_true q95002
         go_wp2
         repeat (go_quiet (fail); try go_wp2)
         go_roundg k1
         case measure => have := HK1.out; omega
         case rel => exact ⟨(wrap64 (x13_1 + 1)), (by first | rfl | (simp; done) | (simp [*]; done)), H', ⟨by have := HK1.out; omega⟩, by repeat (first | exact Drawn0.refl _ | apply Drawn0.step)⟩
        ·rw [if_neg c8] at H
         have c8b0 : ((rd l0 x13_1) == (rd l1 x13_1)) = false := beq_eq_false_iff_ne.mpr c8
         have c8b1 : ((rd l0 x13_1) != (rd l1 x13_1)) = true := bne_iff_ne.mpr c8
         obtain rfl := Option.some.inj H
         have p95001 : 0 ≤ (x13_1 : Int) := of_decide_eq_true (by first | (with_reducible assumption) | assumption)
         have q95001 : x13_1 < (l0.length : Int) := of_decide_eq_true (by first | (with_reducible assumption) | assumption)
         obtain ⟨ad95001, e95001, hx95001_0⟩ := Kd.at_int HR0.out x13_1 p95001 q95001
         cases e95001
         replace p95001 := eq_true p95001
         replace q95001 := eq_true q95001
         have p95002 : 0 ≤ (x13_1 : Int) := of_decide_eq_true (by first | (with_reducible assumption) | assumption)
         have q95002 : x13_1 < (l1.length : Int) := of_decide_eq_true (by first | (with_reducible assumption) | assumption)
         obtain ⟨ad95002, e95002, hx95002_0⟩ := Kd.at_int HR1.out x13_1 p95002 q95002
         cases e95002
         replace p95002 := eq_true p95002
         replace q95002 := eq_true q95002
         go_wp2
         repeat (go_quiet (fail); try go_wp2)
         go_ret
         exact ⟨by first | rfl | (simp; done) | (simp [*]; done), by repeat (first | exact Drawn0.refl _ | apply Drawn0.step)⟩
       ·rw [if_neg c7] at H
        exact absurd H (by simp)
      ·rw [if_neg c6] at H
       exact absurd H (by simp)
     ·rw [if_neg c5] at H
      exact absurd H (by simp)
    ·rw [if_neg c4] at H
     have c4b0 : decide (x13_1 < (l0.length : Int)) = false := decide_eq_false c4
     clear c4
     obtain rfl := Option.some.inj H
     go_wp2
     repeat (go_quiet (fail); try go_wp2)
     go_ret
     exact ⟨by first | rfl | (simp; done) | (simp [*]; done), by repeat (first | exact Drawn0.refl _ | apply Drawn0.step)⟩
 ·rw [if_neg c3] at H
  have c3b0 : ((l0.length : Int) == (l1.length : Int)) = false := beq_eq_false_iff_ne.mpr c3
  have c3b1 : ((l0.length : Int) != (l1.length : Int)) = true := bne_iff_ne.mpr c3
  have c3b2 : (l0.length == l1.length) = false := by first | simpa using c3 | (simp at c3 ⊢; omega)
  obtain rfl := Option.some.inj H
  go_enter Try.func94, Try.ntmps94
  go_wp2
  repeat (go_quiet (fail); try go_wp2)
  go_ret
  exact ⟨by first | rfl | (simp; done) | (simp [*]; done), by repeat (first | exact Drawn0.refl _ | apply Drawn0.step)⟩


/- Grids of pixels as the machine has them: 256 cells. -/

/-- The cells of a grid: pixel p is that in column p % 16 and row p / 16. -/
def gc (g : Nat → Bool) : Array Value := Array.ofFn (n := 256) fun i => .bool (g i.val)
theorem gc_size (g : Nat → Bool) : (gc g).size = 256 := by simp [gc]
theorem gc_get (g : Nat → Bool) (i : Nat) (h : i < 256) : (gc g)[i]? = some (.bool (g i)) := by simp [gc, h]
theorem gc_one (g : Nat → Bool) : (gc g).all (·.oneCell') = true := by
  rw [Array.all_eq_true]
  intro i hi
  simp [gc, Value.oneCell']
theorem gc_set (g : Nat → Bool) (i : Nat) (b : Bool) : (gc g).setIfInBounds i (.bool b) = gc (fun p => if p = i then b else g p) := by
  unfold gc
  apply Array.ext
  · simp
  · intro j h1 h2
    rw [Array.getElem_setIfInBounds (by simpa using h1)]
    simp only [Array.getElem_ofFn]
    by_cases e : i = j
    · subst e; simp
    · rw [if_neg e, if_neg (fun h => e h.symm)]
theorem gc_congr {g g' : Nat → Bool} (h : ∀ p, p < 256 → g p = g' p) : gc g = gc g' := by
  unfold gc
  congr 1
  funext i
  rw [h i.val i.isLt]
theorem zero66 : Try.zeroCells75 = gc (fun _ => false) := by kernel_rfl
theorem info66 : (Try.prog.info? 75).map (·.size) = some 256 := by kernel_rfl
/-- A world in which block B is a grid's. -/
def GridAt (W : World) (B : Nat) (g : Nat → Bool) : Prop := W.heap[B]? = some (.cells (gc g) 75 (0, 0))
theorem GridAt.cell {W : World} {B : Nat} {g : Nat → Bool} (h : GridAt W B g) (i : Nat) (hi : i < 256) : W.cell? ⟨B, i, none⟩ = some (.bool (g i)) := (blk_cell h i).trans (gc_get g i hi)
theorem GridAt.free {W : World} {B : Nat} {g : Nat → Bool} (h : GridAt W B g) (i : Nat) : W.frozen? ⟨B, i, none⟩ = false := blk_frozen h i
theorem GridAt.below {W W' : World} {B : Nat} {g : Nat → Bool} (h : GridAt W B g) (hb : Below W.heap.size W W') : GridAt W' B g := blk_below h hb
theorem GridAt.lt {W : World} {B : Nat} {g : Nat → Bool} (h : GridAt W B g) : B < W.heap.size := blk_lt h
theorem GridAt.set_ {W : World} {B : Nat} {g : Nat → Bool} (h : GridAt W B g) (i : Nat) (b : Bool) : GridAt (W.setCell ⟨B, i, none⟩ (.bool b)) B (fun p => if p = i then b else g p) := by
  have := blk_set h i (.bool b)
  rw [gc_set] at this
  exact this
theorem GridAt.new (W : World) (g : Nat → Bool) : GridAt (W.alloc (.cells (gc g) 75)) W.heap.size g := blk_new _ _
theorem GridAt.alloc {W : World} {B : Nat} {g : Nat → Bool} (h : GridAt W B g) (o : Obj) : GridAt (W.alloc o) B g := blk_alloc h o
theorem GridAt.congr {W : World} {B : Nat} {g g' : Nat → Bool} (h : GridAt W B g) (he : ∀ p, p < 256 → g p = g' p) : GridAt W B g' := by
  unfold GridAt at h ⊢
  rw [← gc_congr he]; exact h
theorem GridAt.load {W : World} {B : Nat} {g : Nat → Bool} (h : GridAt W B g) : (loadCellsFrom ⟨B, 0, none⟩ 0 256 #[]).run Try.prog W = .ok (gc g) W := by
  have := run_loadCells_list (P := Try.prog) W ⟨B, 0, none⟩ (gc g).toList (fun j v hv => by
    have hadd : (⟨B, 0, none⟩ : Addr).add j = ⟨B, j, none⟩ := by unfold Addr.add; split <;> simp_all
    rw [hadd, cell_of_row _ _ j _ 75 (0, 0) h]
    simpa using hv)
  simpa [loadCells, gc_size] using this
theorem GridAt.store {W : World} {B : Nat} {g : Nat → Bool} (h : GridAt W B g) (g' : Nat → Bool) : (storeCells ⟨B, 0, none⟩ (gc g').toList 0).run Try.prog W = .ok () (W.setRow B (gc g')) := by
  have := run_storeCells_from (P := Try.prog) B 75 (gc g').toList 0 (gc g) W h (by simp [gc_size]) (fun v hv => by
    have h1 := Array.all_eq_true_iff_forall_mem.1 (gc_one g') v (by simpa using hv)
    exact h1)
  simpa using this
theorem GridAt.setRow {W : World} {B : Nat} {g : Nat → Bool} (h : GridAt W B g) (g' : Nat → Bool) : GridAt (W.setRow B (gc g')) B g' := setRow_heap W B _ _ _ _ h
theorem below_setRow {B : Nat} {a w : World} (h : Below B a w) {g : Nat} (hg : B ≤ g) (cs : Array Value) : Below B a (w.setRow g cs) :=
  ⟨h.os, h.tape, h.output, by rw [setRow_size]; exact h.size, fun i hi => (setRow_other w g i cs (by omega)).trans (h.block i hi)⟩
theorem underlying66 : Try.prog.underlying 75 = some (.array 16 73) := Try.underlying75

/- impl.gridBy: the grid of the pixels for which a function value's answer is true. -/

def gso (so : Nat → Nat → Bool) (n : Nat) : Nat → Bool := fun p => decide (p < n) && so (p % 16) (p / 16)

theorem gso_step (so : Nat → Nat → Bool) (x y : Nat) (hx : x < 16) (p : Nat) : (if p = y * 16 + x then so x y else gso so (16 * y + x) p) = gso so (16 * y + (x + 1)) p := by
 unfold gso
 by_cases e : p = y * 16 + x
 ·rw [if_pos e]
  have h1 : p % 16 = x := by omega
  have h2 : p / 16 = y := by omega
  rw [h1, h2]
  simp; omega
 ·rw [if_neg e]
  congr 1
  rw [decide_eq_decide]
  omega
theorem gridBy_calls (q : Nat) (lb : Array Value) (so : Nat → Nat → Bool) (w : World)
  (eg : ∀ args W, (callFunc q args).run Try.prog W = .ok (.enter q args) W)
  (hp : ∀ (W : World) (x y : Nat), x < 16 → y < 16 → Below w.heap.size w W → Calls Try.prog q (#[.int .i64 (x : Int), .int .i64 (y : Int)] ++ lb) W fun e W' => e = .returned (.bool (so x y)) ∧ Below W.heap.size W W') :
  Calls Try.prog 67 #[.func (.func q) #[] lb] w fun e w' => e = .returned (.agg (gc (gso so 256))) ∧ Below w.heap.size w w' := by
 have HP := Aside0.mk hp
 clear hp
 have z0 := zero66
 have hst := run_storeCells_new (P := Try.prog) (w.alloc (.cells (gc fun _ => false) 75)) 75 (gc fun _ => false) (gc fun _ => false) (by rw [gc_size]; exact info66) rfl (gc_one _)
 simp only [World.size_alloc] at hst
 go_enter Try.func67, Try.ntmps67
 go_wp2
 go_loopw [7] (fun v7 W => ∃ y : Nat, v7 = .int .i64 y ∧ y ≤ 16 ∧ GridAt W (w.heap.size + 1) (gso so (16 * y)) ∧ GridAt W w.heap.size (fun _ => false) ∧ Aside0 (Below w.heap.size w W)) (fun v7 _ => 16 - (intOf v7).toNat)
 case atStart =>
  refine ⟨0, rfl, by omega, ?_, (GridAt.new _ _).alloc _, ⟨((Below.refl _ _).alloc (Nat.le_refl _) _).alloc (by simp) _⟩⟩
  have h := GridAt.new (w.alloc (.cells (gc fun _ => false) 75)) (fun _ => false)
  simp only [World.size_alloc] at h
  exact h.congr (fun p _ => by simp [gso])
 case round =>
  obtain ⟨y, rfl, hy, hg, hg2, hb⟩ := hrel
  clear hst
  by_cases hlt : y < 16
  ·have hdy : decide ((y : Int) < 16) = true := by simp; omega
   go_wp2
   go_loopw [10] (fun v10 W => ∃ x : Nat, v10 = .int .i64 x ∧ x ≤ 16 ∧ GridAt W (w.heap.size + 1) (gso so (16 * y + x)) ∧ GridAt W w.heap.size (fun _ => false) ∧ Aside0 (Below w.heap.size w W)) (fun v10 _ => 16 - (intOf v10).toNat)
   case atStart => exact ⟨0, rfl, by omega, hg, hg2, hb⟩
   case round =>
    clear hg hg2 hb
    obtain ⟨x, rfl, hx, hg, hg2, hb⟩ := hrel
    by_cases hlx : x < 16
    ·have hdx : decide ((x : Int) < 16) = true := by simp; omega
     go_wp2
     go_region_with (first | (go_at_fn q; refine (HP.out _ x y hlx hlt (by first | exact hb.out | exact below_drew hb.out | exact pw_below_drewN hb.out _)).mono ?_; rintro e w' ⟨rfl, hb2⟩; have hgn := Aside0.mk (blk_below (w := wr.drew) hg hb2); have hgn2 := Aside0.mk (blk_below (w := wr.drew) hg2 hb2); have hbn := Aside0.mk (below_then (below_drew hb.out) (below_drew hb.out).size hb2); have hc1 := GridAt.cell hgn.out (y * 16 + x) (by omega); have hf1 := GridAt.free hgn.out (y * 16 + x); clear hb2))
     all_goals
      go_wp2
      go_roundw
      case rel => exact ⟨x + 1, by go_num, by omega, (GridAt.set_ hgn.out (y * 16 + x) (so x y)).congr (fun p _ => gso_step so x y hlx p), blk_far hgn2.out (by simp) _, ⟨below_set hbn.out (by omega)⟩⟩
      case measure => simp [intOf]; omega
    ·have hdx : decide ((x : Int) < 16) = false := by simp; omega
     have hx16 : x = 16 := by omega
     subst hx16
     go_wp2
     go_roundw
     case rel => exact ⟨y + 1, by go_num, by omega, hg.congr (fun p _ => by rw [Nat.mul_add]), hg2, hb⟩
     case measure => simp [intOf]; omega
  ·have hdy : decide ((y : Int) < 16) = false := by simp; omega
   have hy16 : y = 16 := by omega
   subst hy16
   have hg' : wr.heap[w.heap.size + 1]? = some (.cells (gc (gso so 256)) 75 (0, 0)) := hg
   have hg2' : wr.heap[w.heap.size]? = some (.cells (gc fun _ => false) 75 (0, 0)) := hg2
   have hi : (Try.prog.info? 75).map (·.size) = some (gc (gso so 256)).size := by rw [gc_size]; exact info66
   have hold : (gc fun _ => false).size = (gc (gso so 256)).size := by rw [gc_size, gc_size]
   have h1 := gc_one (gso so 256)
   go_wp2_with (first
    | ((with_reducible refine gate_dst (N := 23) rfl ?_); refine wpList_load_row rfl 75 (.tmp 3) rfl (w.heap.size + 1) rfl 75 (gc (gso so 256)) (0, 0) (.array 16 73) hg' underlying66 rfl hi ?_)
    | ((with_reducible refine wpList_store_row rfl 75 (.tmp 2) (.tmp 23) rfl w.heap.size (gc (gso so 256)) ?hx ?hy 75 (gc fun _ => false) hg2' hi hold h1 ?_); (case hx => rfl); (case hy => rfl)))
   refine bodyPost_ret (results_cell_row rfl _ _ w.heap.size 75 (gc (gso so 256)) (0, 0) (.array 16 73) rfl (hg2.setRow (gso so 256)) underlying66 rfl hi) rfl ?_
   exact ⟨rfl, below_setRow hb.out (Nat.le_refl _) _⟩

/- (impl.grid).runs: the runs of a grid, row by row. -/

def endAt (g : Nat → Bool) (y : Nat) : Nat → Nat → Nat
 | 0, x => x
 | n + 1, x => if x < 16 ∧ g (y * 16 + x) = true then endAt g y n (x + 1) else x
theorem endAt_ge (g : Nat → Bool) (y n x : Nat) : x ≤ endAt g y n x := by
 induction n generalizing x with
 | zero => exact Nat.le_refl _
 | succ n ih =>
  unfold endAt
  split
  ·exact Nat.le_trans (Nat.le_succ x) (ih (x + 1))
  ·exact Nat.le_refl _
def scanRow (g : Nat → Bool) (y x : Nat) : List S47 :=
 if _h : x < 16 then
  if g (y * 16 + x) = true then ⟨(y : Int), (x : Int), (endAt g y (16 - x) x : Nat)⟩ :: scanRow g y (endAt g y (16 - x) x + 1)
  else scanRow g y (x + 1)
 else []
 termination_by 16 - x
 decreasing_by
  ·have := endAt_ge g y (16 - x) x; omega
  ·omega
def runsTo (g : Nat → Bool) (y : Nat) : List S47 := (List.range y).flatMap fun y => scanRow g y 0
def runsL (g : Nat → Bool) : List S47 := runsTo g 16
theorem runsTo_succ (g : Nat → Bool) (y : Nat) : runsTo g (y + 1) = runsTo g y ++ scanRow g y 0 := by
 simp [runsTo, List.range_succ]
theorem scan_true (g : Nat → Bool) (y x : Nat) (h : x < 16) (hg : g (y * 16 + x) = true) : scanRow g y x = ⟨(y : Int), (x : Int), (endAt g y (16 - x) x : Nat)⟩ :: scanRow g y (endAt g y (16 - x) x + 1) := by
 rw [scanRow, dif_pos h, if_pos hg]
theorem scan_false (g : Nat → Bool) (y x : Nat) (h : x < 16) (hg : g (y * 16 + x) = false) : scanRow g y x = scanRow g y (x + 1) := by
 rw [scanRow, dif_pos h, if_neg (by simp [hg])]
theorem scan_end (g : Nat → Bool) (y x : Nat) (h : 16 ≤ x) : scanRow g y x = [] := by
 rw [scanRow, dif_neg (by omega)]
theorem endAt_step (g : Nat → Bool) (y x : Nat) (h : x < 16) (hg : g (y * 16 + x) = true) : endAt g y (16 - x) x = endAt g y (16 - (x + 1)) (x + 1) := by
 rw [show 16 - x = (16 - (x + 1)) + 1 by omega]
 rw [endAt, if_pos ⟨h, hg⟩]
theorem endAt_stop (g : Nat → Bool) (y x : Nat) (h : 16 ≤ x ∨ g (y * 16 + x) = false) : endAt g y (16 - x) x = x := by
 cases hn : 16 - x with
 | zero => rfl
 | succ n => rw [endAt, if_neg (by rcases h with h | h; omega; simp [h])]

theorem runs_calls (g : Nat → Bool) (w : World) :
  Calls Try.prog 71 #[.agg (gc g)] w fun e w' => ∃ v0_ : Value, e = .returned v0_ ∧ Kd.R k47 47 w' w.heap.size (fun _ => True) v0_ (runsL g) ∧ Below w.heap.size w w' := by
 go_enter Try.func71, Try.ntmps71
 go_wp2
 go_loopw [3, 8] (fun v3 v8 W => ∃ y : Nat, v8 = .int .i64 y ∧ y ≤ 16 ∧ Aside0 (Kd.R k47 47 W w.heap.size (fun _ => True) v3 (runsTo g y) ∧ (runsTo g y).length ≤ 17 * y) ∧ GridAt W w.heap.size g ∧ Aside0 (Below w.heap.size w W)) (fun _ v8 _ => 16 - (intOf v8).toNat)
 case atStart =>
  have h := R_empty k47 47 w.heap.size (w.alloc (.cells (gc g) 75)) (by simp)
  simp only [World.size_alloc] at h
  exact ⟨0, rfl, by omega, ⟨h, by simp [runsTo]⟩, (GridAt.new _ _).alloc _, ⟨((Below.refl _ _).alloc (Nat.le_refl _) _).alloc (by simp) _⟩⟩
 case round =>
  obtain ⟨y, rfl, hy, hR, hg, hb⟩ := hrel
  by_cases hlt : y < 16
  ·have hdy : decide ((y : Int) < 16) = true := by simp; omega
   go_wp2
   go_loopw [3, 5] (fun v3 v5 W => ∃ (x : Nat) (xs : List S47), v5 = .int .i64 x ∧ x ≤ 17 ∧ Aside0 (Kd.R k47 47 W w.heap.size (fun _ => True) v3 xs ∧ xs.length ≤ 17 * y + x ∧ xs ++ scanRow g y x = runsTo g (y + 1)) ∧ GridAt W w.heap.size g ∧ Aside0 (Below w.heap.size w W)) (fun _ v5 _ => 17 - (intOf v5).toNat)
   case atStart => exact ⟨0, _, rfl, by omega, ⟨hR.out.1, by have := hR.out.2; omega, (runsTo_succ g y).symm⟩, hg, hb⟩
   case round =>
    clear hR hg hb
    obtain ⟨x, xs, rfl, hx, hR, hg, hb⟩ := hrel
    by_cases hlx : x < 16
    ·have hdx : decide ((x : Int) < 16) = true := by simp; omega
     have hc := hg.cell (y * 16 + x) (by omega)
     by_cases hv : g (y * 16 + x) = true
     ·rw [hv] at hc
      have hs := scan_true g y x hlx hv
      have HS := mk hs
      clear hs
      go_wp2
      go_loop [5] (fun v5 => ∃ z : Nat, v5 = .int .i64 z ∧ x ≤ z ∧ z ≤ 16 ∧ Aside0 (endAt g y (16 - z) z = endAt g y (16 - x) x)) (fun v5 => 16 - (intOf v5).toNat)
      case atStart => exact ⟨x, rfl, by omega, by omega, ⟨rfl⟩⟩
      case round =>
       clear hc
       obtain ⟨z, rfl, hxz, hz, hE⟩ := hrel
       have hgz := hg.alloc (.cells #[.int .i64 (y : Int), .int .i64 (x : Int), .int .i64 0] 47)
       by_cases hz16 : z < 16 ∧ g (y * 16 + z) = true
       ·obtain ⟨hlz, hvz⟩ := hz16
        have hdz : decide ((z : Int) < 16) = true := by simp; omega
        have hc := hgz.cell (y * 16 + z) (by omega)
        rw [hvz] at hc
        have hE2 := mk ((endAt_step g y z hlz hvz).symm.trans hE.out)
        clear hvz hE
        go_wp2
        go_round
        case rel => exact ⟨z + 1, by go_num, by omega, by omega, hE2⟩
        case measure => simp [intOf]; omega
       ·have hz17 : 16 ≤ z ∨ g (y * 16 + z) = false := by
         by_cases h : z < 16
         ·right
          cases hgv : g (y * 16 + z) with
          | false => rfl
          | true => exact absurd ⟨h, hgv⟩ hz16
         ·left; omega
        have hstop := endAt_stop g y z hz17
        have hEZ := mk (hE.out.symm.trans hstop)
        have hl24 : xs.length + 1 ≤ 1000 := by have := hR.out.2.1; omega
        have hRB := mk (Kd.R_alloc hR.out.1 (.cells #[.int .i64 (y : Int), .int .i64 (x : Int), .int .i64 (z : Int)] 47))
        have hBB := mk (below_alloc hb.out (.cells #[.int .i64 (y : Int), .int .i64 (x : Int), .int .i64 (z : Int)] 47))
        have hGB := mk (blk_alloc hg (.cells #[.int .i64 (y : Int), .int .i64 (x : Int), .int .i64 (z : Int)] 47))
        have hNE := mk (Kd.R_ne hRB.out hGB.out (by decide))
        clear hstop hE hz16
        rcases hz17 with hz17 | hz17
        ·have hdz : decide ((z : Int) < 16) = false := by simp; omega
         go_wp2_with (first | ((with_reducible refine gate_builtin (b := .append) (xs := #[.tmp 37, .tmp 39]) rfl ?_); at_builtin; refine Kd.R_append k47 w.heap.size rfl (.tmp 37) (.tmp 39) 26 47 (.agg #[(.int .i64 0), (.int .i64 0), (.int .i64 0)]) 24 rfl Try.underlying26 info47 rfl (by decide) (by omega) u3 xs (⟨(y : Int), (x : Int), (z : Int)⟩ : S47) [.int .i64 (y : Int), .int .i64 (x : Int), .int .i64 (z : Int)] (fun _ => True) (fun _ => False) rfl ?aX ?aP (fun _ hk => hk.elim) (fun _ _ => trivial) hRB.out hBB.out ?aS ?aL ?_; (case aX => rw [World.size_alloc]; rfl); (case aP => exact k47_mkM _ _ _ (⟨(y : Int), (x : Int), (z : Int)⟩ : S47)); (case aS => exact hBB.out.size); (case aL => omega); intro v4 w4 ho hb4 hg4 hat4; have hG4 := mk (blk_grown hGB.out hg4 hNE.out); have hO4 := mk ho; have hB4 := mk hb4; clear ho hb4 hg4 hat4))
         go_roundw
         case rel =>
          refine ⟨z + 1, xs ++ [⟨(y : Int), (x : Int), (z : Int)⟩], by go_num, by omega, ⟨hO4.out, by have := hR.out.2.1; rw [List.length_append]; simp; omega, ?_⟩, hG4.out, hB4⟩
          have h1 := hR.out.2.2
          rw [HS.out, hEZ.out] at h1
          rw [List.append_assoc]; exact h1
         case measure => simp [intOf]; omega
        ·by_cases hlz : z < 16
         ·have hdz : decide ((z : Int) < 16) = true := by simp; omega
          have hc := hgz.cell (y * 16 + z) (by omega)
          rw [hz17] at hc
          go_wp2_with (first | ((with_reducible refine gate_builtin (b := .append) (xs := #[.tmp 37, .tmp 39]) rfl ?_); at_builtin; refine Kd.R_append k47 w.heap.size rfl (.tmp 37) (.tmp 39) 26 47 (.agg #[(.int .i64 0), (.int .i64 0), (.int .i64 0)]) 24 rfl Try.underlying26 info47 rfl (by decide) (by omega) u3 xs (⟨(y : Int), (x : Int), (z : Int)⟩ : S47) [.int .i64 (y : Int), .int .i64 (x : Int), .int .i64 (z : Int)] (fun _ => True) (fun _ => False) rfl ?aX ?aP (fun _ hk => hk.elim) (fun _ _ => trivial) hRB.out hBB.out ?aS ?aL ?_; (case aX => rw [World.size_alloc]; rfl); (case aP => exact k47_mkM _ _ _ (⟨(y : Int), (x : Int), (z : Int)⟩ : S47)); (case aS => exact hBB.out.size); (case aL => omega); intro v4 w4 ho hb4 hg4 hat4; have hG4 := mk (blk_grown hGB.out hg4 hNE.out); have hO4 := mk ho; have hB4 := mk hb4; clear ho hb4 hg4 hat4))
          go_roundw
          case rel =>
           refine ⟨z + 1, xs ++ [⟨(y : Int), (x : Int), (z : Int)⟩], by go_num, by omega, ⟨hO4.out, by have := hR.out.2.1; rw [List.length_append]; simp; omega, ?_⟩, hG4.out, hB4⟩
           have h1 := hR.out.2.2
           rw [HS.out, hEZ.out] at h1
           rw [List.append_assoc]; exact h1
          case measure => simp [intOf]; omega

         ·have hdz : decide ((z : Int) < 16) = false := by simp; omega
          go_wp2_with (first | ((with_reducible refine gate_builtin (b := .append) (xs := #[.tmp 37, .tmp 39]) rfl ?_); at_builtin; refine Kd.R_append k47 w.heap.size rfl (.tmp 37) (.tmp 39) 26 47 (.agg #[(.int .i64 0), (.int .i64 0), (.int .i64 0)]) 24 rfl Try.underlying26 info47 rfl (by decide) (by omega) u3 xs (⟨(y : Int), (x : Int), (z : Int)⟩ : S47) [.int .i64 (y : Int), .int .i64 (x : Int), .int .i64 (z : Int)] (fun _ => True) (fun _ => False) rfl ?aX ?aP (fun _ hk => hk.elim) (fun _ _ => trivial) hRB.out hBB.out ?aS ?aL ?_; (case aX => rw [World.size_alloc]; rfl); (case aP => exact k47_mkM _ _ _ (⟨(y : Int), (x : Int), (z : Int)⟩ : S47)); (case aS => exact hBB.out.size); (case aL => omega); intro v4 w4 ho hb4 hg4 hat4; have hG4 := mk (blk_grown hGB.out hg4 hNE.out); have hO4 := mk ho; have hB4 := mk hb4; clear ho hb4 hg4 hat4))
          go_roundw
          case rel =>
           refine ⟨z + 1, xs ++ [⟨(y : Int), (x : Int), (z : Int)⟩], by go_num, by omega, ⟨hO4.out, by have := hR.out.2.1; rw [List.length_append]; simp; omega, ?_⟩, hG4.out, hB4⟩
           have h1 := hR.out.2.2
           rw [HS.out, hEZ.out] at h1
           rw [List.append_assoc]; exact h1
          case measure => simp [intOf]; omega
     ·replace hv : g (y * 16 + x) = false := by simpa using hv
      rw [hv] at hc
      have hs := scan_false g y x hlx hv
      have HS := mk hs
      clear hs
      go_wp2
      go_roundw
      case rel => exact ⟨x + 1, xs, by go_num, by omega, ⟨hR.out.1, by have := hR.out.2.1; omega, by rw [← HS.out]; exact hR.out.2.2⟩, hg, hb⟩
      case measure => simp [intOf]; omega
    ·have hdx : decide ((x : Int) < 16) = false := by simp; omega
     have he := scan_end g y x (by omega)
     have HE := mk he
     clear he
     go_wp2
     go_roundw
     case rel =>
      have h1 := hR.out.2.2
      rw [HE.out, List.append_nil] at h1
      exact ⟨y + 1, by go_num, by omega, ⟨by rw [← h1]; exact hR.out.1, by rw [← h1]; have := hR.out.2.1; omega⟩, hg, hb⟩
     case measure => simp [intOf]; omega
  ·have hdy : decide ((y : Int) < 16) = false := by simp; omega
   have hy16 : y = 16 := by omega
   subst hy16
   go_wp2
   go_ret
   exact ⟨_, rfl, hR.out.1, hb.out⟩

def impl_isSide.f (a0 : Int) : Option (Bool) := if a0 ≥ 1 then (some (decide (a0 ≤ 16))) else (some false)
theorem impl_isSide.calls (a0 : Int) (r : Bool) (w : World) (h : impl_isSide.f a0 = some r) :
  Calls Try.prog 108 #[.int .i64 a0] w fun e w' => e = .returned (.bool r) ∧ Drawn0 w w' := by
 have H : (if a0 ≥ 1 then (some (decide (a0 ≤ 16))) else (some false)) = some r := h
 clear h
 by_cases c2 : a0 ≥ 1
 ·rw [if_pos c2] at H
  have c2b0 : decide (1 ≤ a0) = true := decide_eq_true c2
  clear c2
  obtain rfl := Option.some.inj H
  go_enter Try.func108, Try.ntmps108
  go_wp2
  go_ret
  exact ⟨by first | rfl | (simp; done) | (simp [*]; done), by repeat (first | exact Drawn0.refl _ | apply Drawn0.step)⟩
 ·rw [if_neg c2] at H
  have c2b0 : decide (1 ≤ a0) = false := decide_eq_false c2
  clear c2
  obtain rfl := Option.some.inj H
  go_enter Try.func108, Try.ntmps108
  go_wp2
  go_ret
  exact ⟨by first | rfl | (simp; done) | (simp [*]; done), by repeat (first | exact Drawn0.refl _ | apply Drawn0.step)⟩


def impl_isShape.f (a0 : Int) (a1 : Int) (a2 : Int) : Option (Bool) := (impl_isSide.f a0).bind fun t92001 => (if t92001 = true then ((impl_isSide.f a1).bind fun t92002 => (if t92002 = true then (if a2 ≥ 1 then (some (decide (a2 ≤ 4))) else (some false)) else (some false))) else (some false))
theorem impl_isShape.calls (a0 : Int) (a1 : Int) (a2 : Int) (r : Bool) (w : World) (h : impl_isShape.f a0 a1 a2 = some r) :
  Calls Try.prog 91 #[.int .i64 a0, .int .i64 a1, .int .i64 a2] w fun e w' => e = .returned (.bool r) ∧ Drawn0 w w' := by
 have H : ((impl_isSide.f a0).bind fun t92001 => (if t92001 = true then ((impl_isSide.f a1).bind fun t92002 => (if t92002 = true then (if a2 ≥ 1 then (some (decide (a2 ≤ 4))) else (some false)) else (some false))) else (some false))) = some r := h
 clear h
 replace H := Option.bind_eq_some_iff.mp H
 obtain ⟨t92001, A40, H⟩ := H
 replace H : (if t92001 = true then ((impl_isSide.f a1).bind fun t92002 => (if t92002 = true then (if a2 ≥ 1 then (some (decide (a2 ≤ 4))) else (some false)) else (some false))) else (some false)) = some r := H
 have A4 := Aside0.mk A40
 clear A40
 by_cases c5 : t92001 = true
 ·subst c5
  have H1 : ((impl_isSide.f a1).bind fun t92002 => (if t92002 = true then (if a2 ≥ 1 then (some (decide (a2 ≤ 4))) else (some false)) else (some false))) = some r := by rw [if_pos rfl] at H; exact H
  clear H
  have H := H1
  clear H1
  replace H := Option.bind_eq_some_iff.mp H
  obtain ⟨t92002, A60, H⟩ := H
  replace H : (if t92002 = true then (if a2 ≥ 1 then (some (decide (a2 ≤ 4))) else (some false)) else (some false)) = some r := H
  have A6 := Aside0.mk A60
  clear A60
  by_cases c7 : t92002 = true
  ·subst c7
   have H1 : (if a2 ≥ 1 then (some (decide (a2 ≤ 4))) else (some false)) = some r := by rw [if_pos rfl] at H; exact H
   clear H
   have H := H1
   clear H1
   by_cases c8 : a2 ≥ 1
   ·rw [if_pos c8] at H
    have c8b0 : decide (1 ≤ a2) = true := decide_eq_true c8
    clear c8
    obtain rfl := Option.some.inj H
    go_enter Try.func91, Try.ntmps91
    go_wp2_with (first | ((with_reducible refine gate_callee (f := 108) rfl ?_); refine goesL_ (some 8) rfl rfl Try.func108 (by kernel_rfl) rfl #[.int .i64 a0] rfl (by (try simp only [List.map_toArray, List.map_cons, List.map_nil]); first | done | rfl | (simp only [List.length_drop, List.length_take]; rfl)) ?_; (with_reducible refine (impl_isSide.calls a0 true _ A4.out).mono ?_); rintro e w' ⟨rfl, ⟨nd, rfl⟩⟩; refine ⟨_, rfl, ?_⟩) | (go_at_call 108; (with_reducible refine (impl_isSide.calls a1 true _ A6.out).mono ?_); rintro e w' ⟨rfl, ⟨nd, rfl⟩⟩))
    go_ret
    exact ⟨by first | rfl | (simp; done) | (simp [*]; done), by repeat (first | exact Drawn0.refl _ | apply Drawn0.step)⟩
   ·rw [if_neg c8] at H
    have c8b0 : decide (1 ≤ a2) = false := decide_eq_false c8
    clear c8
    obtain rfl := Option.some.inj H
    go_enter Try.func91, Try.ntmps91
    go_wp2_with (first | ((with_reducible refine gate_callee (f := 108) rfl ?_); refine goesL_ (some 8) rfl rfl Try.func108 (by kernel_rfl) rfl #[.int .i64 a0] rfl (by (try simp only [List.map_toArray, List.map_cons, List.map_nil]); first | done | rfl | (simp only [List.length_drop, List.length_take]; rfl)) ?_; (with_reducible refine (impl_isSide.calls a0 true _ A4.out).mono ?_); rintro e w' ⟨rfl, ⟨nd, rfl⟩⟩; refine ⟨_, rfl, ?_⟩) | (go_at_call 108; (with_reducible refine (impl_isSide.calls a1 true _ A6.out).mono ?_); rintro e w' ⟨rfl, ⟨nd, rfl⟩⟩))
    go_ret
    exact ⟨by first | rfl | (simp; done) | (simp [*]; done), by repeat (first | exact Drawn0.refl _ | apply Drawn0.step)⟩
  ·replace c7 := Bool.eq_false_iff.mpr c7
   subst c7
   have H1 : (some false) = some r := by rw [if_neg (show ¬ (false = true) by decide)] at H; exact H
   clear H
   have H := H1
   clear H1
   obtain rfl := Option.some.inj H
   go_enter Try.func91, Try.ntmps91
   go_wp2_with (first | ((with_reducible refine gate_callee (f := 108) rfl ?_); refine goesL_ (some 8) rfl rfl Try.func108 (by kernel_rfl) rfl #[.int .i64 a0] rfl (by (try simp only [List.map_toArray, List.map_cons, List.map_nil]); first | done | rfl | (simp only [List.length_drop, List.length_take]; rfl)) ?_; (with_reducible refine (impl_isSide.calls a0 true _ A4.out).mono ?_); rintro e w' ⟨rfl, ⟨nd, rfl⟩⟩; refine ⟨_, rfl, ?_⟩) | (go_at_call 108; (with_reducible refine (impl_isSide.calls a1 false _ A6.out).mono ?_); rintro e w' ⟨rfl, ⟨nd, rfl⟩⟩))
   go_ret
   exact ⟨by first | rfl | (simp; done) | (simp [*]; done), by repeat (first | exact Drawn0.refl _ | apply Drawn0.step)⟩
 ·replace c5 := Bool.eq_false_iff.mpr c5
  subst c5
  have H1 : (some false) = some r := by rw [if_neg (show ¬ (false = true) by decide)] at H; exact H
  clear H
  have H := H1
  clear H1
  obtain rfl := Option.some.inj H
  go_enter Try.func91, Try.ntmps91
  go_wp2_with (first | ((with_reducible refine gate_callee (f := 108) rfl ?_); refine goesL_ (some 8) rfl rfl Try.func108 (by kernel_rfl) rfl #[.int .i64 a0] rfl (by (try simp only [List.map_toArray, List.map_cons, List.map_nil]); first | done | rfl | (simp only [List.length_drop, List.length_take]; rfl)) ?_; (with_reducible refine (impl_isSide.calls a0 false _ A4.out).mono ?_); rintro e w' ⟨rfl, ⟨nd, rfl⟩⟩; refine ⟨_, rfl, ?_⟩))
  go_ret
  exact ⟨by first | rfl | (simp; done) | (simp [*]; done), by repeat (first | exact Drawn0.refl _ | apply Drawn0.step)⟩


/- slices.IndexFunc over whole numbers: where the first element lies for which the function value's answer is true. -/

theorem idxFunc_int (g : Nat) (lb : Array Value) (p : Int → Bool) (A : Option Addr) (c : Nat) (l : List Int) (w : World)
  (eg : ∀ args W, (callFunc g args).run Try.prog W = .ok (.enter g args) W)
  (hp : ∀ (W : World) (x : Int), Below w.heap.size w W → Calls Try.prog g (#[.int .i64 x] ++ lb) W fun e W' => e = .returned (.bool (p x)) ∧ Drawn0 W W')
  (hr : Kd.C (Kd.int .i64) w A l.length l) :
  Calls Try.prog 111 #[.slice A l.length c, .func (.func g) #[] lb] w fun e w' => e = .returned (.int .i64 (idxF p l)) ∧ Drawn0 w w' := by
 have hm : l.length ≤ 9223372036854775807 := hr.2.1
 have HP := Aside0.mk hp
 have HR := Aside0.mk hr
 clear hp hr
 go_enter Try.func111, Try.ntmps111
 go_wp2
 go_loopw [8] (fun v8 W => ∃ k : Nat, v8 = .int .i64 k ∧ k ≤ l.length ∧ SawNone p l k ∧ Drawn0 w W) (fun v8 _ => l.length - (intOf v8).toNat)
 case atStart => exact ⟨0, rfl, by omega, fun j hj => by omega, Drawn0.refl _⟩
 case round =>
  obtain ⟨k, rfl, hk, hs, hd⟩ := hrel
  by_cases hlt : k < l.length
  ·obtain ⟨ad, e, hx⟩ := Kd.at_int HR.out (k : Int) (by omega) (by omega)
   cases e
   rw [rd_get l k hlt, Int.toNat_natCast] at hx
   replace hx := (hd.below.cell (World.block_lt_of_cell? w _ hx)).trans hx
   by_cases hv : p l[k] = true
   ·have HV := Aside0.mk hv
    clear hv
    go_wp2_with (first | (go_at_fn g; refine (HP.out _ _ hd.below).mono ?_; rintro e w' ⟨rfl, hd2⟩; rw [HV.out]))
    go_ret
    exact ⟨by rw [idxF_at p l k hlt hs HV.out]; rfl, dtrans hd hd2⟩
   ·replace hv : p l[k] = false := by simpa using hv
    have hs' := hs.succ hlt hv
    have HV := Aside0.mk hv
    clear hv
    go_wp2_with (first | (go_at_fn g; refine (HP.out _ _ hd.below).mono ?_; rintro e w' ⟨rfl, hd2⟩; rw [HV.out]))
    go_roundw
    case rel => exact ⟨k + 1, by go_num, by omega, hs', dtrans hd hd2⟩
    case measure => simp [intOf]; omega
  ·go_wp2
   go_ret
   have : k = l.length := by omega
   subst this
   exact ⟨by rw [idxF_none p l hs]; rfl, hd⟩

/- slices.ContainsFunc over whole numbers. -/

theorem containsFunc_int (g : Nat) (lb : Array Value) (p : Int → Bool) (A : Option Addr) (c : Nat) (l : List Int) (w : World)
  (eg : ∀ args W, (callFunc g args).run Try.prog W = .ok (.enter g args) W)
  (hp : ∀ (W : World) (x : Int), Below w.heap.size w W → Calls Try.prog g (#[.int .i64 x] ++ lb) W fun e W' => e = .returned (.bool (p x)) ∧ Drawn0 W W')
  (hr : Kd.C (Kd.int .i64) w A l.length l) :
  Calls Try.prog 109 #[.slice A l.length c, .func (.func g) #[] lb] w fun e w' => e = .returned (.bool (l.any p)) ∧ Drawn0 w w' := by
 have HP := Aside0.mk hp
 have HR := Aside0.mk hr
 clear hp hr
 go_enter Try.func109, Try.ntmps109
 go_wp2_with (first | (go_at_call 111; refine (idxFunc_int g lb p _ _ _ _ eg HP.out HR.out).mono ?_; rintro e w' ⟨rfl, hd⟩))
 go_ret
 exact ⟨ret_bool (by first | exact idxF_any p l | (rw [← idxF_any p l])), hd⟩

/- impl.areBytes: every number is in 0..255. -/

def notByte (n : Int) : Bool := decide (n < 0) || decide (n > 255)
def impl_areBytes.f (l0 : List Int) : Option Bool := some (!l0.any notByte)

theorem areBytes1 (n : Int) (w : World) : Calls Try.prog 110 #[.int .i64 n] w fun e w' => e = .returned (.bool (notByte n)) ∧ Drawn0 w w' := by
 by_cases h1 : n < 0 <;> by_cases h2 : n > 255
 all_goals
  go_enter Try.func110, Try.ntmps110
  go_wp2
  go_ret
  exact ⟨by simp [notByte, *], Drawn0.refl _⟩

theorem impl_areBytes.calls (A0 : Option Addr) (c0 : Nat) (l0 : List Int) (r : Bool) (w : World) (hr0 : Kd.C (Kd.int .i64) w A0 l0.length l0) (hc0 : l0.length ≤ c0) (h : impl_areBytes.f l0 = some r) :
  Calls Try.prog 92 #[.slice A0 l0.length c0] w fun e w' => e = .returned (.bool r) ∧ Drawn0 w w' := by
 obtain rfl := Option.some.inj h
 clear h
 have HR := Aside0.mk hr0
 clear hr0
 have eg : ∀ args W, (callFunc 110 args).run Try.prog W = .ok (.enter 110 args) W := enters_of Try.func110 (by kernel_rfl) rfl
 go_enter Try.func92, Try.ntmps92
 go_wp2_with (first | (go_at_call 109; refine (containsFunc_int 110 #[] notByte _ _ _ _ eg (fun W x _ => areBytes1 x W) HR.out).mono ?_; rintro e w' ⟨rfl, hd⟩))
 go_ret
 exact ⟨rfl, hd⟩

/- Steps of a region with the mask left to be worked out; sets of rewriting facts under short names. -/

attribute [seval] Act.put List.setIfInBounds_toArray List.set_cons_zero List.set_cons_succ i64_w i32_w
attribute [bool_to_prop] Act.put List.setIfInBounds_toArray List.set_cons_zero List.set_cons_succ List.getElem_toArray List.getElem_cons_zero List.getElem_cons_succ
attribute [bitvec_to_nat] List.map_toArray List.map_cons List.map_nil
section
variable {P : Program} {ops : Array Oper} {Q : Exit → Act → World → Prop} {md : Region.Mode} {S : World → Prop} {ds : List Nat}
theorem pu (i : Nat) (N : Nat) {oi : Oper} (v : Value) (b : Act) {fuel : Nat} {l : Array Bool} {a : Act} {w : World} (hi : ops[i]? = some oi) (hN : oi.dst = some N) (hc : anyB md ops l (l.setIfInBounds i true) i = true) (hy : Yields P ops oi v a) (ha : a.put (some N) v = b) (h : wpAnyLast P md ops Q S ds fuel (l.setIfInBounds i true) b w) (hQ : ∀ c a w, Q (.panic c) (a.put oi.dst v) w → Q (.panic c) a w := by exact fun _ _ _ h => h) : wpAnyLast P md ops Q S ds (fuel + 1) l a w := pure_ _ hi hN hc hQ hy ha h
theorem tk (i : Nat) (N : Nat) {oi : Oper} (v : Value) (b : Act) {fuel : Nat} {l : Array Bool} {a : Act} {w : World} (hi : ops[i]? = some oi) (hN : oi.dst = some N) (hc : takeB md ops ds l (l.setIfInBounds i true) i = true) (hy : YieldsIf P ops S oi v a) (hS : S w) (ha : a.put (some N) v = b) (h : wpAnyLast P md ops Q S ds fuel (l.setIfInBounds i true) b w) (hQ : ∀ c a w, Q (.panic c) (a.put oi.dst v) w → Q (.panic c) a w := by exact fun _ _ _ h => h) : wpAnyLast P md ops Q S ds (fuel + 1) l a w := take_ _ hi hN hc hQ hy hS ha h
end

def impl_isImage.f (a0_0 : Int) (a0_1 : Int) (a0_2 : Int) (l0_3 : List Int) : Option Bool := (impl_isShape.f a0_0 a0_1 a0_2).bind fun t49002 => (if t49002 = true then (if (l0_3.length : Int) = (wrap64 ((wrap64 (a0_0 * a0_1)) * a0_2)) then ((impl_areBytes.f l0_3).bind fun t49003 => (some t49003)) else (some false)) else (some false))
theorem impl_isImage.calls (a0_0 : Int) (a0_1 : Int) (a0_2 : Int) (A0_3 : Option Addr) (c0_3 : Nat) (l0_3 : List Int) (r : Bool) (w : World) (hr0_3 : Kd.C (Kd.int .i64) w A0_3 l0_3.length l0_3) (hc0_3 : l0_3.length ≤ c0_3) (h : impl_isImage.f a0_0 a0_1 a0_2 l0_3 = some r) :
  Calls Try.prog 48 #[.agg #[.int .i64 a0_0, .int .i64 a0_1, .int .i64 a0_2, .slice A0_3 l0_3.length c0_3]] w fun e w' => e = .returned (.bool r) ∧ Below w.heap.size w w' := by
 have hu28 := Try.underlying28
 have HR0_3 := mk hr0_3
 have HC0_3 := mk hc0_3
 clear hr0_3 hc0_3
 have HB := mk (Below.refl w.heap.size w)
 have H : ((impl_isShape.f a0_0 a0_1 a0_2).bind fun t49002 => (if t49002 = true then (if (l0_3.length : Int) = (wrap64 ((wrap64 (a0_0 * a0_1)) * a0_2)) then ((impl_areBytes.f l0_3).bind fun t49003 => (some t49003)) else (some false)) else (some false))) = some r := h
 clear h
 replace H := Option.bind_eq_some_iff.mp H
 obtain ⟨t49002, A20, H⟩ := H
 replace H : (if t49002 = true then (if (l0_3.length : Int) = (wrap64 ((wrap64 (a0_0 * a0_1)) * a0_2)) then ((impl_areBytes.f l0_3).bind fun t49003 => (some t49003)) else (some false)) else (some false)) = some r := H
 have A2 := mk A20
 clear A20
 by_cases c3 : t49002 = true
 ·subst c3
  have H1 : (if (l0_3.length : Int) = (wrap64 ((wrap64 (a0_0 * a0_1)) * a0_2)) then ((impl_areBytes.f l0_3).bind fun t49003 => (some t49003)) else (some false)) = some r := by rw [if_pos rfl] at H; exact H
  clear H
  have H := H1
  clear H1
  by_cases c4 : (l0_3.length : Int) = (wrap64 ((wrap64 (a0_0 * a0_1)) * a0_2))
  ·rw [if_pos c4] at H
   have c4b0 : ((l0_3.length : Int) == (wrap64 ((wrap64 (a0_0 * a0_1)) * a0_2))) = true := beq_iff_eq.mpr c4
   have c4b1 : ((l0_3.length : Int) != (wrap64 ((wrap64 (a0_0 * a0_1)) * a0_2))) = false := bne_eq_false_iff_eq.mpr c4
   clear c4
   replace H := Option.bind_eq_some_iff.mp H
   obtain ⟨t49003, A50, H⟩ := H
   replace H : (some t49003) = some r := H
   have A5 := mk A50
   clear A50
   obtain rfl := Option.some.inj H
   go_enter Try.func48, Try.ntmps48
   go_wp2_with (first | ((with_reducible refine gate_dst (N := 1) rfl ?_); (try (refine gate_guard (by rfl) ?_; dsimp only)); refine box_event ?hg (N := 1) ?hd (cs := #[.int .i64 a0_0, .int .i64 a0_1, .int .i64 a0_2, .slice A0_3 l0_3.length c0_3]) (t := 28) ?hr ?_; (case hd => rfl); (case hg => rfl); (case hr => (go_simp; done)); intro gb49001 hg w6 hbox hb; have n0_ := mk (below_step HB.out hb); have n1_ := mk (hbox); have n2_ := mk ((by rw [hg]; exact (below_size HB.out) : w.heap.size ≤ gb49001)); have n3_ := mk ((by rw [hg]; exact (below_size HB.out) : w.heap.size ≤ gb49001)); clear HB; have HB := n0_; have BK49001 := n1_; have GW49001 := n2_; have GE49001 := n3_; clear n0_ n1_ n2_ n3_; clear hb hbox hg; have hcz7_0 : w6.cell? ⟨gb49001, 0, none⟩ = some (.int .i64 a0_0) := (blk_cell BK49001.out 0).trans rfl; have hcz7_1 : w6.cell? ⟨gb49001, 1, none⟩ = some (.int .i64 a0_1) := (blk_cell BK49001.out 1).trans rfl; have hcz7_2 : w6.cell? ⟨gb49001, 2, none⟩ = some (.int .i64 a0_2) := (blk_cell BK49001.out 2).trans rfl; have hcz7_3 : w6.cell? ⟨gb49001, 3, none⟩ = some (.slice A0_3 l0_3.length c0_3) := (blk_cell BK49001.out 3).trans rfl; have hfz7_0 := blk_frozen BK49001.out 0; have hfz7_1 := blk_frozen BK49001.out 1; have hfz7_2 := blk_frozen BK49001.out 2; have hfz7_3 := blk_frozen BK49001.out 3) | ((with_reducible refine gate_callee (f := 91) rfl ?_); refine goesL_ (some 9) rfl rfl Try.func91 (by kernel_rfl) rfl #[.int .i64 a0_0, .int .i64 a0_1, .int .i64 a0_2] rfl (by (try simp only [bitvec_to_nat]); rfl) ?_; (with_reducible refine (impl_isShape.calls a0_0 a0_1 a0_2 true _ A2.out).mono ?_); rintro e w' ⟨rfl, ⟨nd, rfl⟩⟩; refine ⟨_, rfl, ?_⟩) | (go_at_call 92; (with_reducible refine (impl_areBytes.calls _ _ l0_3 t49003 _ ?side1 ?side2 A5.out).mono ?_); (case side1 => repeat (exact (Kd.C_below HR0_3.out (by repeat (with_reducible first | exact HB.out | apply pw_below_drewN))))); (case side2 => exact HC0_3.out); rintro e w' ⟨rfl, ⟨nd, rfl⟩⟩))
   go_ret
   exact ⟨by rfl, by repeat (with_reducible first | exact HB.out | apply pw_below_drewN)⟩
  ·rw [if_neg c4] at H
   have c4b0 : ((l0_3.length : Int) == (wrap64 ((wrap64 (a0_0 * a0_1)) * a0_2))) = false := beq_eq_false_iff_ne.mpr c4
   have c4b1 : ((l0_3.length : Int) != (wrap64 ((wrap64 (a0_0 * a0_1)) * a0_2))) = true := bne_iff_ne.mpr c4
   obtain rfl := Option.some.inj H
   go_enter Try.func48, Try.ntmps48
   go_wp2_with (first | ((with_reducible refine gate_dst (N := 1) rfl ?_); (try (refine gate_guard (by rfl) ?_; dsimp only)); refine box_event ?hg (N := 1) ?hd (cs := #[.int .i64 a0_0, .int .i64 a0_1, .int .i64 a0_2, .slice A0_3 l0_3.length c0_3]) (t := 28) ?hr ?_; (case hd => rfl); (case hg => rfl); (case hr => (go_simp; done)); intro gb49001 hg w8 hbox hb; have n0_ := mk (below_step HB.out hb); have n1_ := mk (hbox); have n2_ := mk ((by rw [hg]; exact (below_size HB.out) : w.heap.size ≤ gb49001)); have n3_ := mk ((by rw [hg]; exact (below_size HB.out) : w.heap.size ≤ gb49001)); clear HB; have HB := n0_; have BK49001 := n1_; have GW49001 := n2_; have GE49001 := n3_; clear n0_ n1_ n2_ n3_; clear hb hbox hg; have hcz9_0 : w8.cell? ⟨gb49001, 0, none⟩ = some (.int .i64 a0_0) := (blk_cell BK49001.out 0).trans rfl; have hcz9_1 : w8.cell? ⟨gb49001, 1, none⟩ = some (.int .i64 a0_1) := (blk_cell BK49001.out 1).trans rfl; have hcz9_2 : w8.cell? ⟨gb49001, 2, none⟩ = some (.int .i64 a0_2) := (blk_cell BK49001.out 2).trans rfl; have hcz9_3 : w8.cell? ⟨gb49001, 3, none⟩ = some (.slice A0_3 l0_3.length c0_3) := (blk_cell BK49001.out 3).trans rfl; have hfz9_0 := blk_frozen BK49001.out 0; have hfz9_1 := blk_frozen BK49001.out 1; have hfz9_2 := blk_frozen BK49001.out 2; have hfz9_3 := blk_frozen BK49001.out 3) | ((with_reducible refine gate_callee (f := 91) rfl ?_); refine goesL_ (some 9) rfl rfl Try.func91 (by kernel_rfl) rfl #[.int .i64 a0_0, .int .i64 a0_1, .int .i64 a0_2] rfl (by (try simp only [bitvec_to_nat]); rfl) ?_; (with_reducible refine (impl_isShape.calls a0_0 a0_1 a0_2 true _ A2.out).mono ?_); rintro e w' ⟨rfl, ⟨nd, rfl⟩⟩; refine ⟨_, rfl, ?_⟩))
   go_ret
   exact ⟨by rfl, by repeat (with_reducible first | exact HB.out | apply pw_below_drewN)⟩
 ·replace c3 := Bool.eq_false_iff.mpr c3
  subst c3
  have H1 : (some false) = some r := by rw [if_neg (show ¬ (false = true) by decide)] at H; exact H
  clear H
  have H := H1
  clear H1
  obtain rfl := Option.some.inj H
  go_enter Try.func48, Try.ntmps48
  go_wp2_with (first | ((with_reducible refine gate_dst (N := 1) rfl ?_); (try (refine gate_guard (by rfl) ?_; dsimp only)); refine box_event ?hg (N := 1) ?hd (cs := #[.int .i64 a0_0, .int .i64 a0_1, .int .i64 a0_2, .slice A0_3 l0_3.length c0_3]) (t := 28) ?hr ?_; (case hd => rfl); (case hg => rfl); (case hr => (go_simp; done)); intro gb49001 hg w10 hbox hb; have n0_ := mk (below_step HB.out hb); have n1_ := mk (hbox); have n2_ := mk ((by rw [hg]; exact (below_size HB.out) : w.heap.size ≤ gb49001)); have n3_ := mk ((by rw [hg]; exact (below_size HB.out) : w.heap.size ≤ gb49001)); clear HB; have HB := n0_; have BK49001 := n1_; have GW49001 := n2_; have GE49001 := n3_; clear n0_ n1_ n2_ n3_; clear hb hbox hg; have hcz11_0 : w10.cell? ⟨gb49001, 0, none⟩ = some (.int .i64 a0_0) := (blk_cell BK49001.out 0).trans rfl; have hcz11_1 : w10.cell? ⟨gb49001, 1, none⟩ = some (.int .i64 a0_1) := (blk_cell BK49001.out 1).trans rfl; have hcz11_2 : w10.cell? ⟨gb49001, 2, none⟩ = some (.int .i64 a0_2) := (blk_cell BK49001.out 2).trans rfl; have hcz11_3 : w10.cell? ⟨gb49001, 3, none⟩ = some (.slice A0_3 l0_3.length c0_3) := (blk_cell BK49001.out 3).trans rfl; have hfz11_0 := blk_frozen BK49001.out 0; have hfz11_1 := blk_frozen BK49001.out 1; have hfz11_2 := blk_frozen BK49001.out 2; have hfz11_3 := blk_frozen BK49001.out 3) | ((with_reducible refine gate_callee (f := 91) rfl ?_); refine goesL_ (some 9) rfl rfl Try.func91 (by kernel_rfl) rfl #[.int .i64 a0_0, .int .i64 a0_1, .int .i64 a0_2] rfl (by (try simp only [bitvec_to_nat]); rfl) ?_; (with_reducible refine (impl_isShape.calls a0_0 a0_1 a0_2 false _ A2.out).mono ?_); rintro e w' ⟨rfl, ⟨nd, rfl⟩⟩; refine ⟨_, rfl, ?_⟩))
  go_ret
  exact ⟨by rfl, by repeat (with_reducible first | exact HB.out | apply pw_below_drewN)⟩


def spec_inRange.f (a0 : Int) (a1 : Int) (a2 : Int) : Option (Bool) := if a1 ≤ a0 then (some (decide (a0 ≤ a2))) else (some false)
theorem spec_inRange.calls (a0 : Int) (a1 : Int) (a2 : Int) (r : Bool) (w : World) (h : spec_inRange.f a0 a1 a2 = some r) :
  Calls Try.prog 62 #[.int .i64 a0, .int .i64 a1, .int .i64 a2] w fun e w' => e = .returned (.bool r) ∧ Drawn0 w w' := by
 have H : (if a1 ≤ a0 then (some (decide (a0 ≤ a2))) else (some false)) = some r := h
 clear h
 by_cases c4 : a1 ≤ a0
 ·rw [if_pos c4] at H
  have c4b0 : decide (a1 ≤ a0) = true := decide_eq_true c4
  clear c4
  obtain rfl := Option.some.inj H
  go_enter Try.func62, Try.ntmps62
  go_wp2
  go_ret
  exact ⟨by first | rfl | (simp; done) | (simp [*]; done), by repeat (first | exact Drawn0.refl _ | apply Drawn0.step)⟩
 ·rw [if_neg c4] at H
  have c4b0 : decide (a1 ≤ a0) = false := decide_eq_false c4
  clear c4
  obtain rfl := Option.some.inj H
  go_enter Try.func62, Try.ntmps62
  go_wp2
  go_ret
  exact ⟨by first | rfl | (simp; done) | (simp [*]; done), by repeat (first | exact Drawn0.refl _ | apply Drawn0.step)⟩


def spec_validShape.f (a0 : Int) (a1 : Int) (a2 : Int) : Option (Bool) := (spec_inRange.f a0 1 16).bind fun t97001 => (if t97001 = true then ((spec_inRange.f a1 1 16).bind fun t97002 => (if t97002 = true then ((spec_inRange.f a2 1 4).bind fun t97003 => (some t97003)) else (some false))) else (some false))
theorem spec_validShape.calls (a0 : Int) (a1 : Int) (a2 : Int) (r : Bool) (w : World) (h : spec_validShape.f a0 a1 a2 = some r) :
  Calls Try.prog 96 #[.int .i64 a0, .int .i64 a1, .int .i64 a2] w fun e w' => e = .returned (.bool r) ∧ Drawn0 w w' := by
 have H : ((spec_inRange.f a0 1 16).bind fun t97001 => (if t97001 = true then ((spec_inRange.f a1 1 16).bind fun t97002 => (if t97002 = true then ((spec_inRange.f a2 1 4).bind fun t97003 => (some t97003)) else (some false))) else (some false))) = some r := h
 clear h
 replace H := Option.bind_eq_some_iff.mp H
 obtain ⟨t97001, A40, H⟩ := H
 replace H : (if t97001 = true then ((spec_inRange.f a1 1 16).bind fun t97002 => (if t97002 = true then ((spec_inRange.f a2 1 4).bind fun t97003 => (some t97003)) else (some false))) else (some false)) = some r := H
 have A4 := Aside0.mk A40
 clear A40
 by_cases c5 : t97001 = true
 ·subst c5
  have H1 : ((spec_inRange.f a1 1 16).bind fun t97002 => (if t97002 = true then ((spec_inRange.f a2 1 4).bind fun t97003 => (some t97003)) else (some false))) = some r := by rw [if_pos rfl] at H; exact H
  clear H
  have H := H1
  clear H1
  replace H := Option.bind_eq_some_iff.mp H
  obtain ⟨t97002, A60, H⟩ := H
  replace H : (if t97002 = true then ((spec_inRange.f a2 1 4).bind fun t97003 => (some t97003)) else (some false)) = some r := H
  have A6 := Aside0.mk A60
  clear A60
  by_cases c7 : t97002 = true
  ·subst c7
   have H1 : ((spec_inRange.f a2 1 4).bind fun t97003 => (some t97003)) = some r := by rw [if_pos rfl] at H; exact H
   clear H
   have H := H1
   clear H1
   replace H := Option.bind_eq_some_iff.mp H
   obtain ⟨t97003, A80, H⟩ := H
   replace H : (some t97003) = some r := H
   have A8 := Aside0.mk A80
   clear A80
   obtain rfl := Option.some.inj H
   go_enter Try.func96, Try.ntmps96
   go_wp2_with (first | ((with_reducible refine gate_callee (f := 62) rfl ?_); refine goesL_ (some 8) rfl rfl Try.func62 (by kernel_rfl) rfl #[.int .i64 a0, .int .i64 1, .int .i64 16] rfl (by (try simp only [List.map_toArray, List.map_cons, List.map_nil]); first | done | rfl | (simp only [List.length_drop, List.length_take]; rfl)) ?_; (with_reducible refine (spec_inRange.calls a0 1 16 true _ A4.out).mono ?_); rintro e w' ⟨rfl, ⟨nd, rfl⟩⟩; refine ⟨_, rfl, ?_⟩) | (go_at_call 62; (with_reducible refine (spec_inRange.calls a1 1 16 true _ A6.out).mono ?_); rintro e w' ⟨rfl, ⟨nd, rfl⟩⟩) | (go_at_call 62; (with_reducible refine (spec_inRange.calls a2 1 4 t97003 _ A8.out).mono ?_); rintro e w' ⟨rfl, ⟨nd, rfl⟩⟩))
   go_ret
   exact ⟨by first | rfl | (simp; done) | (simp [*]; done), by repeat (first | exact Drawn0.refl _ | apply Drawn0.step)⟩
  ·replace c7 := Bool.eq_false_iff.mpr c7
   subst c7
   have H1 : (some false) = some r := by rw [if_neg (show ¬ (false = true) by decide)] at H; exact H
   clear H
   have H := H1
   clear H1
   obtain rfl := Option.some.inj H
   go_enter Try.func96, Try.ntmps96
   go_wp2_with (first | ((with_reducible refine gate_callee (f := 62) rfl ?_); refine goesL_ (some 8) rfl rfl Try.func62 (by kernel_rfl) rfl #[.int .i64 a0, .int .i64 1, .int .i64 16] rfl (by (try simp only [List.map_toArray, List.map_cons, List.map_nil]); first | done | rfl | (simp only [List.length_drop, List.length_take]; rfl)) ?_; (with_reducible refine (spec_inRange.calls a0 1 16 true _ A4.out).mono ?_); rintro e w' ⟨rfl, ⟨nd, rfl⟩⟩; refine ⟨_, rfl, ?_⟩) | (go_at_call 62; (with_reducible refine (spec_inRange.calls a1 1 16 false _ A6.out).mono ?_); rintro e w' ⟨rfl, ⟨nd, rfl⟩⟩))
   go_ret
   exact ⟨by first | rfl | (simp; done) | (simp [*]; done), by repeat (first | exact Drawn0.refl _ | apply Drawn0.step)⟩
 ·replace c5 := Bool.eq_false_iff.mpr c5
  subst c5
  have H1 : (some false) = some r := by rw [if_neg (show ¬ (false = true) by decide)] at H; exact H
  clear H
  have H := H1
  clear H1
  obtain rfl := Option.some.inj H
  go_enter Try.func96, Try.ntmps96
  go_wp2_with (first | ((with_reducible refine gate_callee (f := 62) rfl ?_); refine goesL_ (some 8) rfl rfl Try.func62 (by kernel_rfl) rfl #[.int .i64 a0, .int .i64 1, .int .i64 16] rfl (by (try simp only [List.map_toArray, List.map_cons, List.map_nil]); first | done | rfl | (simp only [List.length_drop, List.length_take]; rfl)) ?_; (with_reducible refine (spec_inRange.calls a0 1 16 false _ A4.out).mono ?_); rintro e w' ⟨rfl, ⟨nd, rfl⟩⟩; refine ⟨_, rfl, ?_⟩))
  go_ret
  exact ⟨by first | rfl | (simp; done) | (simp [*]; done), by repeat (first | exact Drawn0.refl _ | apply Drawn0.step)⟩


def spec_allIn.l0 : Nat → List Int → Int → Int → Int → Option (Bool)
 | 0, _, _, _, _ => none
 | k + 1, x0, x1, x2, x7 => if x7 < (x0.length : Int) then (if 0 ≤ x7 then ((spec_inRange.f (rd x0 x7) x1 x2).bind fun t98002 => (if t98002 = true then (spec_allIn.l0 k x0 x1 x2 (wrap64 (x7 + 1))) else (some false))) else (none)) else (some true)
def spec_allIn.f (k : Nat) (l0 : List Int) (a1 : Int) (a2 : Int) : Option (Bool) := spec_allIn.l0 k l0 a1 a2 0
theorem spec_allIn.calls (k : Nat) (A0 : Option Addr) (c0 : Nat) (l0 : List Int) (a1 : Int) (a2 : Int) (r : Bool) (w : World) (hr0 : Kd.C (Kd.int .i64) w A0 l0.length l0) (hc0 : l0.length ≤ c0) (h : spec_allIn.f k l0 a1 a2 = some r) :
  Calls Try.prog 97 #[.slice A0 l0.length c0, .int .i64 a1, .int .i64 a2] w fun e w' => e = .returned (.bool r) ∧ Drawn0 w w' := by
 have HR0 := Aside0.mk hr0
 have HC0 := Aside0.mk hc0
 clear hr0 hc0
 have H : (spec_allIn.l0 k l0 a1 a2 0) = some r := h
 clear h
 have H' := Aside0.mk H
 clear H
 go_enter Try.func97, Try.ntmps97
 go_wp2
 go_loopg [7] k (fun kq v7 w' => ∃ (x7_1 : Int), v7 = .int .i64 x7_1 ∧ Aside0 (spec_allIn.l0 kq l0 a1 a2 x7_1 = some r) ∧ Aside0 (kq ≤ k) ∧ Drawn0 w w')
 case atStart => exact ⟨(0), (by first | rfl | (simp; done) | (simp [*]; done)), H', ⟨Nat.le_refl _⟩, by repeat (first | exact Drawn0.refl _ | apply Drawn0.step)⟩
 case round =>
  clear H'
  try clear p2
  obtain ⟨x7_1, rfl, HA, HK1, ⟨m1, rfl⟩⟩ := hrel
  cases gk with
  | zero => exact absurd HA.out (by simp [spec_allIn.l0])
  | succ k1 =>
   have H := HA.out
   clear HA
   simp only [spec_allIn.l0] at H
   by_cases c4 : x7_1 < (l0.length : Int)
   ·rw [if_pos c4] at H
    have c4b0 : decide (x7_1 < (l0.length : Int)) = true := decide_eq_true c4
    clear c4
    by_cases c5 : 0 ≤ x7_1
    ·rw [if_pos c5] at H
     have c5b0 : decide (0 ≤ x7_1) = true := decide_eq_true c5
     clear c5
     replace H := Option.bind_eq_some_iff.mp H
     obtain ⟨t98002, A60, H⟩ := H
     replace H : (if t98002 = true then (spec_allIn.l0 k1 l0 a1 a2 (wrap64 (x7_1 + 1))) else (some false)) = some r := H
     have A6 := Aside0.mk A60
     clear A60
     by_cases c7 : t98002 = true
     ·subst c7
      have H1 : (spec_allIn.l0 k1 l0 a1 a2 (wrap64 (x7_1 + 1))) = some r := by rw [if_pos rfl] at H; exact H
      clear H
      have H := H1
      clear H1
      have H' := Aside0.mk H
      clear H
      have p98001 : 0 ≤ (x7_1 : Int) := of_decide_eq_true (by first | (with_reducible assumption) | assumption)
      have q98001 : x7_1 < (l0.length : Int) := of_decide_eq_true (by first | (with_reducible assumption) | assumption)
      obtain ⟨ad98001, e98001, hx98001_0⟩ := Kd.at_int HR0.out x7_1 p98001 q98001
      cases e98001
      replace p98001 := eq_true p98001
      replace q98001 := eq_true q98001
      go_wp2_with (first | ((with_reducible refine gate_callee (f := 62) rfl ?_); refine goesL_ (some 20) rfl rfl Try.func62 (by kernel_rfl) rfl #[.int .i64 (rd l0 x7_1), .int .i64 a1, .int .i64 a2] rfl (by (try simp only [List.map_toArray, List.map_cons, List.map_nil]); first | done | rfl | (simp only [List.length_drop, List.length_take]; rfl)) ?_; (with_reducible refine (spec_inRange.calls (rd l0 x7_1) a1 a2 true _ A6.out).mono ?_); rintro e w' ⟨rfl, ⟨nd, rfl⟩⟩; refine ⟨_, rfl, ?_⟩))
      go_roundg k1
      case measure => have := HK1.out; omega
      case rel => exact ⟨(wrap64 (x7_1 + 1)), (by first | rfl | (simp; done) | (simp [*]; done)), H', ⟨by have := HK1.out; omega⟩, by repeat (first | exact Drawn0.refl _ | apply Drawn0.step)⟩
     ·replace c7 := Bool.eq_false_iff.mpr c7
      subst c7
      have H1 : (some false) = some r := by rw [if_neg (show ¬ (false = true) by decide)] at H; exact H
      clear H
      have H := H1
      clear H1
      obtain rfl := Option.some.inj H
      have p98001 : 0 ≤ (x7_1 : Int) := of_decide_eq_true (by first | (with_reducible assumption) | assumption)
      have q98001 : x7_1 < (l0.length : Int) := of_decide_eq_true (by first | (with_reducible assumption) | assumption)
      obtain ⟨ad98001, e98001, hx98001_0⟩ := Kd.at_int HR0.out x7_1 p98001 q98001
      cases e98001
      replace p98001 := eq_true p98001
      replace q98001 := eq_true q98001
      go_wp2_with (first | ((with_reducible refine gate_callee (f := 62) rfl ?_); refine goesL_ (some 20) rfl rfl Try.func62 (by kernel_rfl) rfl #[.int .i64 (rd l0 x7_1), .int .i64 a1, .int .i64 a2] rfl (by (try simp only [List.map_toArray, List.map_cons, List.map_nil]); first | done | rfl | (simp only [List.length_drop, List.length_take]; rfl)) ?_; (with_reducible refine (spec_inRange.calls (rd l0 x7_1) a1 a2 false _ A6.out).mono ?_); rintro e w' ⟨rfl, ⟨nd, rfl⟩⟩; refine ⟨_, rfl, ?_⟩))
      go_ret
      exact ⟨by first | rfl | (simp; done) | (simp [*]; done), by repeat (first | exact Drawn0.refl _ | apply Drawn0.step)⟩
    ·rw [if_neg c5] at H
     exact absurd H (by simp)
   ·rw [if_neg c4] at H
    have c4b0 : decide (x7_1 < (l0.length : Int)) = false := decide_eq_false c4
    clear c4
    obtain rfl := Option.some.inj H
    go_wp2
    go_ret
    exact ⟨by first | rfl | (simp; done) | (simp [*]; done), by repeat (first | exact Drawn0.refl _ | apply Drawn0.step)⟩


def spec_validImage.f (k : Nat) (a0_0 : Int) (a0_1 : Int) (a0_2 : Int) (l0_3 : List Int) : Option Bool := (spec_validShape.f a0_0 a0_1 a0_2).bind fun t61002 => (if t61002 = true then (if (l0_3.length : Int) = (wrap64 ((wrap64 (a0_0 * a0_1)) * a0_2)) then ((spec_allIn.f k l0_3 0 255).bind fun t61003 => (some t61003)) else (some false)) else (some false))
theorem spec_validImage.calls (k : Nat) (a0_0 : Int) (a0_1 : Int) (a0_2 : Int) (A0_3 : Option Addr) (c0_3 : Nat) (l0_3 : List Int) (r : Bool) (w : World) (hr0_3 : Kd.C (Kd.int .i64) w A0_3 l0_3.length l0_3) (hc0_3 : l0_3.length ≤ c0_3) (h : spec_validImage.f k a0_0 a0_1 a0_2 l0_3 = some r) :
  Calls Try.prog 60 #[.agg #[.int .i64 a0_0, .int .i64 a0_1, .int .i64 a0_2, .slice A0_3 l0_3.length c0_3]] w fun e w' => e = .returned (.bool r) ∧ Below w.heap.size w w' := by
 have hu28 := Try.underlying28
 have HR0_3 := mk hr0_3
 have HC0_3 := mk hc0_3
 clear hr0_3 hc0_3
 have HB := mk (Below.refl w.heap.size w)
 have H : ((spec_validShape.f a0_0 a0_1 a0_2).bind fun t61002 => (if t61002 = true then (if (l0_3.length : Int) = (wrap64 ((wrap64 (a0_0 * a0_1)) * a0_2)) then ((spec_allIn.f k l0_3 0 255).bind fun t61003 => (some t61003)) else (some false)) else (some false))) = some r := h
 clear h
 replace H := Option.bind_eq_some_iff.mp H
 obtain ⟨t61002, A20, H⟩ := H
 replace H : (if t61002 = true then (if (l0_3.length : Int) = (wrap64 ((wrap64 (a0_0 * a0_1)) * a0_2)) then ((spec_allIn.f k l0_3 0 255).bind fun t61003 => (some t61003)) else (some false)) else (some false)) = some r := H
 have A2 := mk A20
 clear A20
 by_cases c3 : t61002 = true
 ·subst c3
  have H1 : (if (l0_3.length : Int) = (wrap64 ((wrap64 (a0_0 * a0_1)) * a0_2)) then ((spec_allIn.f k l0_3 0 255).bind fun t61003 => (some t61003)) else (some false)) = some r := by rw [if_pos rfl] at H; exact H
  clear H
  have H := H1
  clear H1
  by_cases c4 : (l0_3.length : Int) = (wrap64 ((wrap64 (a0_0 * a0_1)) * a0_2))
  ·rw [if_pos c4] at H
   have c4b0 : ((l0_3.length : Int) == (wrap64 ((wrap64 (a0_0 * a0_1)) * a0_2))) = true := beq_iff_eq.mpr c4
   have c4b1 : ((l0_3.length : Int) != (wrap64 ((wrap64 (a0_0 * a0_1)) * a0_2))) = false := bne_eq_false_iff_eq.mpr c4
   clear c4
   replace H := Option.bind_eq_some_iff.mp H
   obtain ⟨t61003, A50, H⟩ := H
   replace H : (some t61003) = some r := H
   have A5 := mk A50
   clear A50
   obtain rfl := Option.some.inj H
   go_enter Try.func60, Try.ntmps60
   go_wp2_with (first | ((with_reducible refine gate_dst (N := 1) rfl ?_); (try (refine gate_guard (by rfl) ?_; dsimp only)); refine box_event ?hg (N := 1) ?hd (cs := #[.int .i64 a0_0, .int .i64 a0_1, .int .i64 a0_2, .slice A0_3 l0_3.length c0_3]) (t := 28) ?hr ?_; (case hd => rfl); (case hg => rfl); (case hr => (go_simp; done)); intro gb61001 hg w6 hbox hb; have n0_ := mk (below_step HB.out hb); have n1_ := mk (hbox); have n2_ := mk ((by rw [hg]; exact (below_size HB.out) : w.heap.size ≤ gb61001)); have n3_ := mk ((by rw [hg]; exact (below_size HB.out) : w.heap.size ≤ gb61001)); clear HB; have HB := n0_; have BK61001 := n1_; have GW61001 := n2_; have GE61001 := n3_; clear n0_ n1_ n2_ n3_; clear hb hbox hg; have hcz7_0 : w6.cell? ⟨gb61001, 0, none⟩ = some (.int .i64 a0_0) := (blk_cell BK61001.out 0).trans rfl; have hcz7_1 : w6.cell? ⟨gb61001, 1, none⟩ = some (.int .i64 a0_1) := (blk_cell BK61001.out 1).trans rfl; have hcz7_2 : w6.cell? ⟨gb61001, 2, none⟩ = some (.int .i64 a0_2) := (blk_cell BK61001.out 2).trans rfl; have hcz7_3 : w6.cell? ⟨gb61001, 3, none⟩ = some (.slice A0_3 l0_3.length c0_3) := (blk_cell BK61001.out 3).trans rfl; have hfz7_0 := blk_frozen BK61001.out 0; have hfz7_1 := blk_frozen BK61001.out 1; have hfz7_2 := blk_frozen BK61001.out 2; have hfz7_3 := blk_frozen BK61001.out 3) | ((with_reducible refine gate_callee (f := 96) rfl ?_); refine goesL_ (some 9) rfl rfl Try.func96 (by kernel_rfl) rfl #[.int .i64 a0_0, .int .i64 a0_1, .int .i64 a0_2] rfl (by (try simp only [bitvec_to_nat]); rfl) ?_; (with_reducible refine (spec_validShape.calls a0_0 a0_1 a0_2 true _ A2.out).mono ?_); rintro e w' ⟨rfl, ⟨nd, rfl⟩⟩; refine ⟨_, rfl, ?_⟩) | (go_at_call 97; (with_reducible refine (spec_allIn.calls k _ _ l0_3 0 255 t61003 _ ?side1 ?side2 A5.out).mono ?_); (case side1 => repeat (exact (Kd.C_below HR0_3.out (by repeat (with_reducible first | exact HB.out | apply pw_below_drewN))))); (case side2 => exact HC0_3.out); rintro e w' ⟨rfl, ⟨nd, rfl⟩⟩))
   go_ret
   exact ⟨by rfl, by repeat (with_reducible first | exact HB.out | apply pw_below_drewN)⟩
  ·rw [if_neg c4] at H
   have c4b0 : ((l0_3.length : Int) == (wrap64 ((wrap64 (a0_0 * a0_1)) * a0_2))) = false := beq_eq_false_iff_ne.mpr c4
   have c4b1 : ((l0_3.length : Int) != (wrap64 ((wrap64 (a0_0 * a0_1)) * a0_2))) = true := bne_iff_ne.mpr c4
   obtain rfl := Option.some.inj H
   go_enter Try.func60, Try.ntmps60
   go_wp2_with (first | ((with_reducible refine gate_dst (N := 1) rfl ?_); (try (refine gate_guard (by rfl) ?_; dsimp only)); refine box_event ?hg (N := 1) ?hd (cs := #[.int .i64 a0_0, .int .i64 a0_1, .int .i64 a0_2, .slice A0_3 l0_3.length c0_3]) (t := 28) ?hr ?_; (case hd => rfl); (case hg => rfl); (case hr => (go_simp; done)); intro gb61001 hg w8 hbox hb; have n0_ := mk (below_step HB.out hb); have n1_ := mk (hbox); have n2_ := mk ((by rw [hg]; exact (below_size HB.out) : w.heap.size ≤ gb61001)); have n3_ := mk ((by rw [hg]; exact (below_size HB.out) : w.heap.size ≤ gb61001)); clear HB; have HB := n0_; have BK61001 := n1_; have GW61001 := n2_; have GE61001 := n3_; clear n0_ n1_ n2_ n3_; clear hb hbox hg; have hcz9_0 : w8.cell? ⟨gb61001, 0, none⟩ = some (.int .i64 a0_0) := (blk_cell BK61001.out 0).trans rfl; have hcz9_1 : w8.cell? ⟨gb61001, 1, none⟩ = some (.int .i64 a0_1) := (blk_cell BK61001.out 1).trans rfl; have hcz9_2 : w8.cell? ⟨gb61001, 2, none⟩ = some (.int .i64 a0_2) := (blk_cell BK61001.out 2).trans rfl; have hcz9_3 : w8.cell? ⟨gb61001, 3, none⟩ = some (.slice A0_3 l0_3.length c0_3) := (blk_cell BK61001.out 3).trans rfl; have hfz9_0 := blk_frozen BK61001.out 0; have hfz9_1 := blk_frozen BK61001.out 1; have hfz9_2 := blk_frozen BK61001.out 2; have hfz9_3 := blk_frozen BK61001.out 3) | ((with_reducible refine gate_callee (f := 96) rfl ?_); refine goesL_ (some 9) rfl rfl Try.func96 (by kernel_rfl) rfl #[.int .i64 a0_0, .int .i64 a0_1, .int .i64 a0_2] rfl (by (try simp only [bitvec_to_nat]); rfl) ?_; (with_reducible refine (spec_validShape.calls a0_0 a0_1 a0_2 true _ A2.out).mono ?_); rintro e w' ⟨rfl, ⟨nd, rfl⟩⟩; refine ⟨_, rfl, ?_⟩))
   go_ret
   exact ⟨by rfl, by repeat (with_reducible first | exact HB.out | apply pw_below_drewN)⟩
 ·replace c3 := Bool.eq_false_iff.mpr c3
  subst c3
  have H1 : (some false) = some r := by rw [if_neg (show ¬ (false = true) by decide)] at H; exact H
  clear H
  have H := H1
  clear H1
  obtain rfl := Option.some.inj H
  go_enter Try.func60, Try.ntmps60
  go_wp2_with (first | ((with_reducible refine gate_dst (N := 1) rfl ?_); (try (refine gate_guard (by rfl) ?_; dsimp only)); refine box_event ?hg (N := 1) ?hd (cs := #[.int .i64 a0_0, .int .i64 a0_1, .int .i64 a0_2, .slice A0_3 l0_3.length c0_3]) (t := 28) ?hr ?_; (case hd => rfl); (case hg => rfl); (case hr => (go_simp; done)); intro gb61001 hg w10 hbox hb; have n0_ := mk (below_step HB.out hb); have n1_ := mk (hbox); have n2_ := mk ((by rw [hg]; exact (below_size HB.out) : w.heap.size ≤ gb61001)); have n3_ := mk ((by rw [hg]; exact (below_size HB.out) : w.heap.size ≤ gb61001)); clear HB; have HB := n0_; have BK61001 := n1_; have GW61001 := n2_; have GE61001 := n3_; clear n0_ n1_ n2_ n3_; clear hb hbox hg; have hcz11_0 : w10.cell? ⟨gb61001, 0, none⟩ = some (.int .i64 a0_0) := (blk_cell BK61001.out 0).trans rfl; have hcz11_1 : w10.cell? ⟨gb61001, 1, none⟩ = some (.int .i64 a0_1) := (blk_cell BK61001.out 1).trans rfl; have hcz11_2 : w10.cell? ⟨gb61001, 2, none⟩ = some (.int .i64 a0_2) := (blk_cell BK61001.out 2).trans rfl; have hcz11_3 : w10.cell? ⟨gb61001, 3, none⟩ = some (.slice A0_3 l0_3.length c0_3) := (blk_cell BK61001.out 3).trans rfl; have hfz11_0 := blk_frozen BK61001.out 0; have hfz11_1 := blk_frozen BK61001.out 1; have hfz11_2 := blk_frozen BK61001.out 2; have hfz11_3 := blk_frozen BK61001.out 3) | ((with_reducible refine gate_callee (f := 96) rfl ?_); refine goesL_ (some 9) rfl rfl Try.func96 (by kernel_rfl) rfl #[.int .i64 a0_0, .int .i64 a0_1, .int .i64 a0_2] rfl (by (try simp only [bitvec_to_nat]); rfl) ?_; (with_reducible refine (spec_validShape.calls a0_0 a0_1 a0_2 false _ A2.out).mono ?_); rintro e w' ⟨rfl, ⟨nd, rfl⟩⟩; refine ⟨_, rfl, ?_⟩))
  go_ret
  exact ⟨by rfl, by repeat (with_reducible first | exact HB.out | apply pw_below_drewN)⟩


def impl_alikeImages.f (a0_0 : Int) (a0_1 : Int) (a0_2 : Int) (l0_3 : List Int) (a1_0 : Int) (a1_1 : Int) (a1_2 : Int) (l1_3 : List Int) : Option Bool := if a0_0 = a1_0 then (if a0_1 = a1_1 then (some (a0_2 == a1_2)) else (some false)) else (some false)
theorem impl_alikeImages.calls (a0_0 : Int) (a0_1 : Int) (a0_2 : Int) (A0_3 : Option Addr) (c0_3 : Nat) (l0_3 : List Int) (a1_0 : Int) (a1_1 : Int) (a1_2 : Int) (A1_3 : Option Addr) (c1_3 : Nat) (l1_3 : List Int) (r : Bool) (w : World) (hr0_3 : Kd.C (Kd.int .i64) w A0_3 l0_3.length l0_3) (hc0_3 : l0_3.length ≤ c0_3) (hr1_3 : Kd.C (Kd.int .i64) w A1_3 l1_3.length l1_3) (hc1_3 : l1_3.length ≤ c1_3) (h : impl_alikeImages.f a0_0 a0_1 a0_2 l0_3 a1_0 a1_1 a1_2 l1_3 = some r) :
  Calls Try.prog 49 #[.agg #[.int .i64 a0_0, .int .i64 a0_1, .int .i64 a0_2, .slice A0_3 l0_3.length c0_3], .agg #[.int .i64 a1_0, .int .i64 a1_1, .int .i64 a1_2, .slice A1_3 l1_3.length c1_3]] w fun e w' => e = .returned (.bool r) ∧ Below w.heap.size w w' := by
 have hu28 := Try.underlying28
 have HR0_3 := mk hr0_3
 have HC0_3 := mk hc0_3
 clear hr0_3 hc0_3
 have HR1_3 := mk hr1_3
 have HC1_3 := mk hc1_3
 clear hr1_3 hc1_3
 have HB := mk (Below.refl w.heap.size w)
 have H : (if a0_0 = a1_0 then (if a0_1 = a1_1 then (some (a0_2 == a1_2)) else (some false)) else (some false)) = some r := h
 clear h
 by_cases c3 : a0_0 = a1_0
 ·rw [if_pos c3] at H
  have c3b0 : (a0_0 == a1_0) = true := beq_iff_eq.mpr c3
  have c3b1 : (a0_0 != a1_0) = false := bne_eq_false_iff_eq.mpr c3
  clear c3
  by_cases c4 : a0_1 = a1_1
  ·rw [if_pos c4] at H
   have c4b0 : (a0_1 == a1_1) = true := beq_iff_eq.mpr c4
   have c4b1 : (a0_1 != a1_1) = false := bne_eq_false_iff_eq.mpr c4
   clear c4
   obtain rfl := Option.some.inj H
   go_enter Try.func49, Try.ntmps49
   go_wp2_with (first | ((with_reducible refine gate_dst (N := 2) rfl ?_); refine box_event ?hg (N := 2) ?hd (cs := #[.int .i64 a0_0, .int .i64 a0_1, .int .i64 a0_2, .slice A0_3 l0_3.length c0_3]) (t := 28) ?hr ?_; (case hd => rfl); (case hg => rfl); (case hr => (go_simp; done)); intro gb50001 hg w5 hbox hb; have n0_ := mk (below_step HB.out hb); have n1_ := mk (hbox); have n2_ := mk ((by rw [hg]; exact (below_size HB.out) : w.heap.size ≤ gb50001)); have n3_ := mk ((by rw [hg]; exact (below_size HB.out) : w.heap.size ≤ gb50001)); clear HB; have HB := n0_; have BK50001 := n1_; have GW50001 := n2_; have GE50001 := n3_; clear n0_ n1_ n2_ n3_; clear hb hbox hg) | ((with_reducible refine gate_dst (N := 3) rfl ?_); refine box_event ?hg (N := 3) ?hd (cs := #[.int .i64 a1_0, .int .i64 a1_1, .int .i64 a1_2, .slice A1_3 l1_3.length c1_3]) (t := 28) ?hr ?_; (case hd => rfl); (case hg => rfl); (case hr => (go_simp; done)); intro gb50002 hg w6 hbox hb; have n0_ := mk (blk_below BK50001.out hb); have n1_ := mk (below_step HB.out hb); have n2_ := mk (hbox); have n3_ := mk ((by rw [hg]; exact (below_size HB.out) : w.heap.size ≤ gb50002)); have n4_ := mk ((by rw [hg]; exact (below_size HB.out) : w.heap.size ≤ gb50002)); have n5_ := mk ((by rw [hg]; exact Nat.ne_of_lt (blk_lt BK50001.out) : gb50001 ≠ gb50002)); have n6_ := mk ((by rw [hg]; exact Nat.ne_of_gt (blk_lt BK50001.out) : gb50002 ≠ gb50001)); clear BK50001; clear HB; have BK50001 := n0_; have HB := n1_; have BK50002 := n2_; have GW50002 := n3_; have GE50002 := n4_; have NB50001_50002 := n5_; have NB50002_50001 := n6_; clear n0_ n1_ n2_ n3_ n4_ n5_ n6_; clear hb hbox hg; have hnb7 := NB50001_50002.out; have hnc7 := NB50002_50001.out; have hcz8_0 : w6.cell? ⟨gb50001, 0, none⟩ = some (.int .i64 a0_0) := (blk_cell BK50001.out 0).trans rfl; have hcz8_1 : w6.cell? ⟨gb50001, 1, none⟩ = some (.int .i64 a0_1) := (blk_cell BK50001.out 1).trans rfl; have hcz8_2 : w6.cell? ⟨gb50001, 2, none⟩ = some (.int .i64 a0_2) := (blk_cell BK50001.out 2).trans rfl; have hcz8_3 : w6.cell? ⟨gb50001, 3, none⟩ = some (.slice A0_3 l0_3.length c0_3) := (blk_cell BK50001.out 3).trans rfl; have hfz8_0 := blk_frozen BK50001.out 0; have hfz8_1 := blk_frozen BK50001.out 1; have hfz8_2 := blk_frozen BK50001.out 2; have hfz8_3 := blk_frozen BK50001.out 3; have hcz9_0 : w6.cell? ⟨gb50002, 0, none⟩ = some (.int .i64 a1_0) := (blk_cell BK50002.out 0).trans rfl; have hcz9_1 : w6.cell? ⟨gb50002, 1, none⟩ = some (.int .i64 a1_1) := (blk_cell BK50002.out 1).trans rfl; have hcz9_2 : w6.cell? ⟨gb50002, 2, none⟩ = some (.int .i64 a1_2) := (blk_cell BK50002.out 2).trans rfl; have hcz9_3 : w6.cell? ⟨gb50002, 3, none⟩ = some (.slice A1_3 l1_3.length c1_3) := (blk_cell BK50002.out 3).trans rfl; have hfz9_0 := blk_frozen BK50002.out 0; have hfz9_1 := blk_frozen BK50002.out 1; have hfz9_2 := blk_frozen BK50002.out 2; have hfz9_3 := blk_frozen BK50002.out 3))
   go_ret
   exact ⟨by rfl, by exact HB.out⟩
  ·rw [if_neg c4] at H
   have c4b0 : (a0_1 == a1_1) = false := beq_eq_false_iff_ne.mpr c4
   have c4b1 : (a0_1 != a1_1) = true := bne_iff_ne.mpr c4
   obtain rfl := Option.some.inj H
   go_enter Try.func49, Try.ntmps49
   go_wp2_with (first | ((with_reducible refine gate_dst (N := 2) rfl ?_); refine box_event ?hg (N := 2) ?hd (cs := #[.int .i64 a0_0, .int .i64 a0_1, .int .i64 a0_2, .slice A0_3 l0_3.length c0_3]) (t := 28) ?hr ?_; (case hd => rfl); (case hg => rfl); (case hr => (go_simp; done)); intro gb50001 hg w10 hbox hb; have n0_ := mk (below_step HB.out hb); have n1_ := mk (hbox); have n2_ := mk ((by rw [hg]; exact (below_size HB.out) : w.heap.size ≤ gb50001)); have n3_ := mk ((by rw [hg]; exact (below_size HB.out) : w.heap.size ≤ gb50001)); clear HB; have HB := n0_; have BK50001 := n1_; have GW50001 := n2_; have GE50001 := n3_; clear n0_ n1_ n2_ n3_; clear hb hbox hg) | ((with_reducible refine gate_dst (N := 3) rfl ?_); refine box_event ?hg (N := 3) ?hd (cs := #[.int .i64 a1_0, .int .i64 a1_1, .int .i64 a1_2, .slice A1_3 l1_3.length c1_3]) (t := 28) ?hr ?_; (case hd => rfl); (case hg => rfl); (case hr => (go_simp; done)); intro gb50002 hg w11 hbox hb; have n0_ := mk (blk_below BK50001.out hb); have n1_ := mk (below_step HB.out hb); have n2_ := mk (hbox); have n3_ := mk ((by rw [hg]; exact (below_size HB.out) : w.heap.size ≤ gb50002)); have n4_ := mk ((by rw [hg]; exact (below_size HB.out) : w.heap.size ≤ gb50002)); have n5_ := mk ((by rw [hg]; exact Nat.ne_of_lt (blk_lt BK50001.out) : gb50001 ≠ gb50002)); have n6_ := mk ((by rw [hg]; exact Nat.ne_of_gt (blk_lt BK50001.out) : gb50002 ≠ gb50001)); clear BK50001; clear HB; have BK50001 := n0_; have HB := n1_; have BK50002 := n2_; have GW50002 := n3_; have GE50002 := n4_; have NB50001_50002 := n5_; have NB50002_50001 := n6_; clear n0_ n1_ n2_ n3_ n4_ n5_ n6_; clear hb hbox hg; have hnb12 := NB50001_50002.out; have hnc12 := NB50002_50001.out; have hcz13_0 : w11.cell? ⟨gb50001, 0, none⟩ = some (.int .i64 a0_0) := (blk_cell BK50001.out 0).trans rfl; have hcz13_1 : w11.cell? ⟨gb50001, 1, none⟩ = some (.int .i64 a0_1) := (blk_cell BK50001.out 1).trans rfl; have hcz13_2 : w11.cell? ⟨gb50001, 2, none⟩ = some (.int .i64 a0_2) := (blk_cell BK50001.out 2).trans rfl; have hcz13_3 : w11.cell? ⟨gb50001, 3, none⟩ = some (.slice A0_3 l0_3.length c0_3) := (blk_cell BK50001.out 3).trans rfl; have hfz13_0 := blk_frozen BK50001.out 0; have hfz13_1 := blk_frozen BK50001.out 1; have hfz13_2 := blk_frozen BK50001.out 2; have hfz13_3 := blk_frozen BK50001.out 3; have hcz14_0 : w11.cell? ⟨gb50002, 0, none⟩ = some (.int .i64 a1_0) := (blk_cell BK50002.out 0).trans rfl; have hcz14_1 : w11.cell? ⟨gb50002, 1, none⟩ = some (.int .i64 a1_1) := (blk_cell BK50002.out 1).trans rfl; have hcz14_2 : w11.cell? ⟨gb50002, 2, none⟩ = some (.int .i64 a1_2) := (blk_cell BK50002.out 2).trans rfl; have hcz14_3 : w11.cell? ⟨gb50002, 3, none⟩ = some (.slice A1_3 l1_3.length c1_3) := (blk_cell BK50002.out 3).trans rfl; have hfz14_0 := blk_frozen BK50002.out 0; have hfz14_1 := blk_frozen BK50002.out 1; have hfz14_2 := blk_frozen BK50002.out 2; have hfz14_3 := blk_frozen BK50002.out 3))
   go_ret
   exact ⟨by rfl, by exact HB.out⟩
 ·rw [if_neg c3] at H
  have c3b0 : (a0_0 == a1_0) = false := beq_eq_false_iff_ne.mpr c3
  have c3b1 : (a0_0 != a1_0) = true := bne_iff_ne.mpr c3
  obtain rfl := Option.some.inj H
  go_enter Try.func49, Try.ntmps49
  go_wp2_with (first | ((with_reducible refine gate_dst (N := 2) rfl ?_); refine box_event ?hg (N := 2) ?hd (cs := #[.int .i64 a0_0, .int .i64 a0_1, .int .i64 a0_2, .slice A0_3 l0_3.length c0_3]) (t := 28) ?hr ?_; (case hd => rfl); (case hg => rfl); (case hr => (go_simp; done)); intro gb50001 hg w15 hbox hb; have n0_ := mk (below_step HB.out hb); have n1_ := mk (hbox); have n2_ := mk ((by rw [hg]; exact (below_size HB.out) : w.heap.size ≤ gb50001)); have n3_ := mk ((by rw [hg]; exact (below_size HB.out) : w.heap.size ≤ gb50001)); clear HB; have HB := n0_; have BK50001 := n1_; have GW50001 := n2_; have GE50001 := n3_; clear n0_ n1_ n2_ n3_; clear hb hbox hg) | ((with_reducible refine gate_dst (N := 3) rfl ?_); refine box_event ?hg (N := 3) ?hd (cs := #[.int .i64 a1_0, .int .i64 a1_1, .int .i64 a1_2, .slice A1_3 l1_3.length c1_3]) (t := 28) ?hr ?_; (case hd => rfl); (case hg => rfl); (case hr => (go_simp; done)); intro gb50002 hg w16 hbox hb; have n0_ := mk (blk_below BK50001.out hb); have n1_ := mk (below_step HB.out hb); have n2_ := mk (hbox); have n3_ := mk ((by rw [hg]; exact (below_size HB.out) : w.heap.size ≤ gb50002)); have n4_ := mk ((by rw [hg]; exact (below_size HB.out) : w.heap.size ≤ gb50002)); have n5_ := mk ((by rw [hg]; exact Nat.ne_of_lt (blk_lt BK50001.out) : gb50001 ≠ gb50002)); have n6_ := mk ((by rw [hg]; exact Nat.ne_of_gt (blk_lt BK50001.out) : gb50002 ≠ gb50001)); clear BK50001; clear HB; have BK50001 := n0_; have HB := n1_; have BK50002 := n2_; have GW50002 := n3_; have GE50002 := n4_; have NB50001_50002 := n5_; have NB50002_50001 := n6_; clear n0_ n1_ n2_ n3_ n4_ n5_ n6_; clear hb hbox hg; have hnb17 := NB50001_50002.out; have hnc17 := NB50002_50001.out; have hcz18_0 : w16.cell? ⟨gb50001, 0, none⟩ = some (.int .i64 a0_0) := (blk_cell BK50001.out 0).trans rfl; have hcz18_1 : w16.cell? ⟨gb50001, 1, none⟩ = some (.int .i64 a0_1) := (blk_cell BK50001.out 1).trans rfl; have hcz18_2 : w16.cell? ⟨gb50001, 2, none⟩ = some (.int .i64 a0_2) := (blk_cell BK50001.out 2).trans rfl; have hcz18_3 : w16.cell? ⟨gb50001, 3, none⟩ = some (.slice A0_3 l0_3.length c0_3) := (blk_cell BK50001.out 3).trans rfl; have hfz18_0 := blk_frozen BK50001.out 0; have hfz18_1 := blk_frozen BK50001.out 1; have hfz18_2 := blk_frozen BK50001.out 2; have hfz18_3 := blk_frozen BK50001.out 3; have hcz19_0 : w16.cell? ⟨gb50002, 0, none⟩ = some (.int .i64 a1_0) := (blk_cell BK50002.out 0).trans rfl; have hcz19_1 : w16.cell? ⟨gb50002, 1, none⟩ = some (.int .i64 a1_1) := (blk_cell BK50002.out 1).trans rfl; have hcz19_2 : w16.cell? ⟨gb50002, 2, none⟩ = some (.int .i64 a1_2) := (blk_cell BK50002.out 2).trans rfl; have hcz19_3 : w16.cell? ⟨gb50002, 3, none⟩ = some (.slice A1_3 l1_3.length c1_3) := (blk_cell BK50002.out 3).trans rfl; have hfz19_0 := blk_frozen BK50002.out 0; have hfz19_1 := blk_frozen BK50002.out 1; have hfz19_2 := blk_frozen BK50002.out 2; have hfz19_3 := blk_frozen BK50002.out 3))
  go_ret
  exact ⟨by rfl, by exact HB.out⟩


/- (impl.grid).has: whether a pixel, which may be anywhere, is in a grid. -/

def hasP (g : Nat → Bool) (x y : Int) : Bool := decide (x ≥ 0) && decide (x < 16) && decide (y ≥ 0) && decide (y < 16) && g (y.toNat * 16 + x.toNat)

theorem has_calls (g : Nat → Bool) (x y : Int) (w : World) :
  Calls Try.prog 58 #[.agg (gc g), .int .i64 x, .int .i64 y] w fun e w' => e = .returned (.bool (hasP g x y)) ∧ Below w.heap.size w w' := by
 have hB := Aside0.mk (below_alloc (Below.refl w.heap.size w) (.cells (gc g) 75))
 have hgs := gc_size g
 by_cases h1 : x ≥ 0
 ·have d1 : decide (0 ≤ x) = true := by simpa using h1
  by_cases h2 : x < 16
  ·have d2 : decide (x < 16) = true := by simpa using h2
   by_cases h3 : y ≥ 0
   ·have d3 : decide (0 ≤ y) = true := by simpa using h3
    by_cases h4 : y < 16
    ·have d4 : decide (y < 16) = true := by simpa using h4
     obtain ⟨x, rfl⟩ := Int.eq_ofNat_of_zero_le h1
     obtain ⟨y, rfl⟩ := Int.eq_ofNat_of_zero_le h3
     have hE := Aside0.mk (show hasP g (x : Int) (y : Int) = g (y * 16 + x) by simp [hasP]; omega)
     have hc := (GridAt.new w g).cell (y * 16 + x) (by omega)
     go_enter Try.func58, Try.ntmps58
     go_wp2
     go_ret
     exact ⟨by rw [hE.out]; rfl, hB.out⟩
    ·have d4 : decide (y < 16) = false := by simpa using h4
     have hE := Aside0.mk (show hasP g x y = false by simp [hasP, h4])
     go_enter Try.func58, Try.ntmps58
     go_wp2
     go_ret
     exact ⟨by rw [hE.out]; rfl, hB.out⟩
   ·have d3 : decide (0 ≤ y) = false := by simpa using h3
    have hE := Aside0.mk (show hasP g x y = false by simp [hasP, h3])
    go_enter Try.func58, Try.ntmps58
    go_wp2
    go_ret
    exact ⟨by rw [hE.out]; rfl, hB.out⟩
  ·have d2 : decide (x < 16) = false := by simpa using h2
   have hE := Aside0.mk (show hasP g x y = false by simp [hasP, h2])
   go_enter Try.func58, Try.ntmps58
   go_wp2
   go_ret
   exact ⟨by rw [hE.out]; rfl, hB.out⟩
 ·have d1 : decide (0 ≤ x) = false := by simpa using h1
  have hE := Aside0.mk (show hasP g x y = false by simp [hasP, h1])
  go_enter Try.func58, Try.ntmps58
  go_wp2
  go_ret
  exact ⟨by rw [hE.out]; rfl, hB.out⟩

/- Pixels that are connected in a grid: what a search finds that begins at one of them. -/

/-- q and r are neighbours in a row or a column. -/
def Adj (q r : Nat) : Prop := (r = q + 1 ∧ q % 16 < 15) ∨ (q = r + 1 ∧ r % 16 < 15) ∨ r = q + 16 ∨ q = r + 16
inductive Reach (g : Nat → Bool) (s : Nat) : Nat → Prop
  | here : Reach g s s
  | step (q r : Nat) : Reach g s q → Adj q r → r < 256 → g r = true → Reach g s r
/-- The pixels that are connected with pixel s. -/
noncomputable def comp (g : Nat → Bool) (s q : Nat) : Bool := @decide (Reach g s q) (Classical.propDecidable _)
theorem comp_iff (g : Nat → Bool) (s q : Nat) : comp g s q = true ↔ Reach g s q := by
  unfold comp
  exact @decide_eq_true_iff _ (Classical.propDecidable _)
/-- A search from s: what has been seen, what is still to be looked at, and the neighbours of p that are still to be looked at. -/
structure Mid (g : Nat → Bool) (s : Nat) (out : Nat → Bool) (todo : List Nat) (p : Nat) (pend : List (Int × Int)) : Prop where
  start : out s = true
  reach : ∀ q, q < 256 → out q = true → Reach g s q
  todo_ok : ∀ q, q ∈ todo → q < 256 ∧ out q = true
  cur : p < 256 ∧ out p = true
  done : ∀ q r, q < 256 → r < 256 → out q = true → Adj q r → g r = true → out r = true ∨ q ∈ todo ∨ (q = p ∧ (((r % 16 : Nat) : Int), ((r / 16 : Nat) : Int)) ∈ pend)
theorem mid_init (g : Nat → Bool) (s : Nat) (hs : s < 256) : Mid g s (fun q => decide (q = s)) [s] s [] where
  start := by simp
  reach := fun q _ h => by
    have : q = s := by simpa using h
    subst this; exact .here
  todo_ok := fun q h => by
    have : q = s := by simpa using h
    subst this; exact ⟨hs, by simp⟩
  cur := ⟨hs, by simp⟩
  done := fun q r _ _ h _ _ => by
    have : q = s := by simpa using h
    right; left; simp [this]
theorem mid_pop {g : Nat → Bool} {s : Nat} {out : Nat → Bool} {todo todo' : List Nat} {p p0 : Nat} {pend : List (Int × Int)} (h : Mid g s out todo p0 []) (hp : p ∈ todo) (h1 : ∀ q, q ∈ todo → q = p ∨ q ∈ todo') (h2 : ∀ q, q ∈ todo' → q ∈ todo)
    (h3 : ∀ r, r < 256 → Adj p r → (((r % 16 : Nat) : Int), ((r / 16 : Nat) : Int)) ∈ pend) : Mid g s out todo' p pend where
  start := h.start
  reach := h.reach
  todo_ok := fun q hq => h.todo_ok q (h2 q hq)
  cur := h.todo_ok p hp
  done := fun q r hq hr ho ha hg => by
    rcases h.done q r hq hr ho ha hg with c | c | c
    · exact .inl c
    · rcases h1 q c with e | e
      · subst e; exact .inr (.inr ⟨rfl, h3 r hr ha⟩)
      · exact .inr (.inl e)
    · cases c.2
theorem hasP_iff (g : Nat → Bool) (x y : Int) : hasP g x y = true ↔ 0 ≤ x ∧ x < 16 ∧ 0 ≤ y ∧ y < 16 ∧ g (y.toNat * 16 + x.toNat) = true := by
  simp [hasP, and_assoc]
theorem hasP_nat (g : Nat → Bool) (r : Nat) (hr : r < 256) : hasP g ((r % 16 : Nat) : Int) ((r / 16 : Nat) : Int) = g r := by
  have e : r / 16 * 16 + r % 16 = r := by omega
  rw [Bool.eq_iff_iff, hasP_iff, Int.toNat_natCast, Int.toNat_natCast, e]
  constructor
  · intro h; exact h.2.2.2.2
  · intro h; exact ⟨by omega, by omega, by omega, by omega, h⟩
theorem mid_skip {g : Nat → Bool} {s : Nat} {out : Nat → Bool} {todo : List Nat} {p : Nat} {x y : Int} {pend : List (Int × Int)} (h : Mid g s out todo p ((x, y) :: pend)) (hc : hasP g x y = false ∨ out (y.toNat * 16 + x.toNat) = true) : Mid g s out todo p pend where
  start := h.start
  reach := h.reach
  todo_ok := h.todo_ok
  cur := h.cur
  done := fun q r hq hr ho ha hg => by
    rcases h.done q r hq hr ho ha hg with c | c | ⟨c1, c2⟩
    · exact .inl c
    · exact .inr (.inl c)
    · rcases List.mem_cons.1 c2 with e | e
      · injection e with e1 e2
        subst e1 e2
        rcases hc with hc | hc
        · rw [hasP_nat g r hr, hg] at hc; cases hc
        · rw [Int.toNat_natCast, Int.toNat_natCast, show r / 16 * 16 + r % 16 = r by omega] at hc
          exact .inl hc
      · exact .inr (.inr ⟨c1, e⟩)
theorem mid_push {g : Nat → Bool} {s : Nat} {out : Nat → Bool} {todo todo' : List Nat} {p : Nat} {x y : Int} {pend : List (Int × Int)} (h : Mid g s out todo p ((x, y) :: pend)) (hc : hasP g x y = true) (ha0 : Adj p (y.toNat * 16 + x.toNat))
    (h1 : ∀ q, q ∈ todo' → q = y.toNat * 16 + x.toNat ∨ q ∈ todo) (h2 : ∀ q, q ∈ todo → q ∈ todo') (h3 : y.toNat * 16 + x.toNat ∈ todo') : Mid g s (fun q => if q = y.toNat * 16 + x.toNat then true else out q) todo' p pend := by
  have hx := (hasP_iff g x y).1 hc
  refine ⟨?_, ?_, ?_, ?_, ?_⟩
  · show (if s = _ then true else out s) = true
    rw [h.start]; split <;> rfl
  · intro q hq ho
    by_cases e : q = y.toNat * 16 + x.toNat
    · subst e
      exact .step p _ (h.reach p h.cur.1 h.cur.2) ha0 hq hx.2.2.2.2
    · rw [if_neg e] at ho
      exact h.reach q hq ho
  · intro q hq
    rcases h1 q hq with e | e
    · subst e; exact ⟨by omega, by simp⟩
    · have := h.todo_ok q e
      refine ⟨this.1, ?_⟩
      rw [this.2]; split <;> rfl
  · refine ⟨h.cur.1, ?_⟩
    rw [h.cur.2]; split <;> rfl
  · intro q r hq hr ho ha hg
    by_cases e : q = y.toNat * 16 + x.toNat
    · subst e; exact .inr (.inl h3)
    · rw [if_neg e] at ho
      rcases h.done q r hq hr ho ha hg with c | c | ⟨c1, c2⟩
      · left; rw [c]; split <;> rfl
      · exact .inr (.inl (h2 q c))
      · rcases List.mem_cons.1 c2 with e | e
        · left
          injection e with e1 e2
          subst e1 e2
          rw [Int.toNat_natCast, Int.toNat_natCast, if_pos (by omega)]
        · exact .inr (.inr ⟨c1, e⟩)
theorem mid_end {g : Nat → Bool} {s : Nat} (hs : s < 256) {out : Nat → Bool} {p : Nat} (h : Mid g s out [] p []) (q : Nat) (hq : q < 256) : out q = comp g s q := by
  rw [Bool.eq_iff_iff, comp_iff]
  constructor
  · exact h.reach q hq
  · intro hr
    have key : ∀ q, Reach g s q → q < 256 ∧ out q = true := by
      intro q hr
      induction hr with
      | here => exact ⟨hs, h.start⟩
      | step q r _ ha hr hg ih =>
        refine ⟨hr, ?_⟩
        rcases h.done q r ih.1 hr ih.2 ha hg with c | c | ⟨_, c⟩
        · exact c
        · cases c
        · cases c
    exact (key q hr).2
/-- how much has not been seen -/
def unseen (out : Nat → Bool) : Nat := (List.range 256).countP fun q => !out q
theorem unseen_set (out : Nat → Bool) (p : Nat) (hp : p < 256) (h : out p = false) : unseen (fun q => if q = p then true else out q) + 1 = unseen out := by
  unfold unseen
  have key : ∀ (l : List Nat), l.Nodup → p ∈ l → l.countP (fun q => !(if q = p then true else out q)) + 1 = l.countP (fun q => !out q) := by
    intro l
    induction l with
    | nil => intro _ h; cases h
    | cons a l ih =>
      intro hn hm
      rw [List.countP_cons, List.countP_cons]
      by_cases e : a = p
      · subst e
        have hne : ∀ q ∈ l, (!(if q = a then true else out q)) = !out q := by
          intro q hq
          have : q ≠ a := fun e => (List.nodup_cons.1 hn).1 (e ▸ hq)
          rw [if_neg this]
        have hcc : l.countP (fun q => !(if q = a then true else out q)) = l.countP (fun q => !out q) := List.countP_congr (fun q hq => by rw [hne q hq])
        rw [hcc]
        simp [h]
      · have hm' : p ∈ l := by
          rcases List.mem_cons.1 hm with e' | e'
          · exact absurd e'.symm e
          · exact e'
        have := ih (List.nodup_cons.1 hn).2 hm'
        rw [if_neg e]
        omega
  exact key (List.range 256) List.nodup_range (by simpa using hp)
theorem nb_adj (p : Nat) (hp : p < 256) (x y : Int) (h0 : 0 ≤ x) (h1 : x < 16) (h2 : 0 ≤ y) (h3 : y < 16)
    (h : (x = ((p % 16 : Nat) : Int) - 1 ∧ y = ((p / 16 : Nat) : Int)) ∨ (x = ((p % 16 : Nat) : Int) + 1 ∧ y = ((p / 16 : Nat) : Int)) ∨ (x = ((p % 16 : Nat) : Int) ∧ y = ((p / 16 : Nat) : Int) - 1) ∨ (x = ((p % 16 : Nat) : Int) ∧ y = ((p / 16 : Nat) : Int) + 1)) :
    Adj p (y.toNat * 16 + x.toNat) := by
  unfold Adj
  omega
theorem adj_nb (p r : Nat) (hp : p < 256) (hr : r < 256) (h : Adj p r) :
    (((r % 16 : Nat) : Int) = ((p % 16 : Nat) : Int) - 1 ∧ ((r / 16 : Nat) : Int) = ((p / 16 : Nat) : Int)) ∨ (((r % 16 : Nat) : Int) = ((p % 16 : Nat) : Int) + 1 ∧ ((r / 16 : Nat) : Int) = ((p / 16 : Nat) : Int)) ∨ (((r % 16 : Nat) : Int) = ((p % 16 : Nat) : Int) ∧ ((r / 16 : Nat) : Int) = ((p / 16 : Nat) : Int) - 1) ∨ (((r % 16 : Nat) : Int) = ((p % 16 : Nat) : Int) ∧ ((r / 16 : Nat) : Int) = ((p / 16 : Nat) : Int) + 1) := by
  unfold Adj at h
  omega

/- impl.gridOf: the grid of runs that are in range. -/

def runIn (r : S47) (p : Nat) : Bool := decide (r.f0 = ((p / 16 : Nat) : Int)) && decide (r.f1 ≤ ((p % 16 : Nat) : Int)) && decide (((p % 16 : Nat) : Int) < r.f2)
def gridF (l : List S47) (p : Nat) : Bool := l.any fun r => runIn r p
theorem gridF_succ (l : List S47) (k : Nat) (h : k < l.length) (p : Nat) : gridF (l.take (k + 1)) p = (gridF (l.take k) p || runIn l[k] p) := by
 unfold gridF
 rw [List.take_succ_eq_append_getElem h, List.any_append]; simp
def runTo (r : S47) (x : Nat) (p : Nat) : Bool := decide (r.f0 = ((p / 16 : Nat) : Int)) && decide (r.f1 ≤ ((p % 16 : Nat) : Int)) && decide (p % 16 < x)
theorem runTo_step (r : S47) (Y x : Nat) (hY : r.f0 = (Y : Int)) (hx : x < 16) (hF : r.f1 ≤ (x : Int)) (g : Nat → Bool) (p : Nat) :
  (if p = Y * 16 + x then true else (g p || runTo r x p)) = (g p || runTo r (x + 1) p) := by
 unfold runTo
 by_cases e : p = Y * 16 + x
 ·rw [if_pos e]
  have h1 : p % 16 = x := by omega
  have h2 : p / 16 = Y := by omega
  rw [h1, h2, hY]
  simp [hF]
 ·rw [if_neg e]
  congr 1
  by_cases c1 : r.f0 = ((p / 16 : Nat) : Int)
  ·have : decide (p % 16 < x) = decide (p % 16 < x + 1) := by
    rw [decide_eq_decide]
    have : p % 16 ≠ x := by omega
    omega
   rw [this]
  ·rw [decide_eq_false c1, Bool.false_and, Bool.false_and, Bool.false_and]

theorem gridOf_calls (A0 : Option Addr) (c0 : Nat) (l0 : List S47) (w : World) (hr0 : Kd.C k47 w A0 l0.length l0) (hok : ∀ r ∈ l0, 0 ≤ r.f0 ∧ r.f0 < 16 ∧ 0 ≤ r.f1 ∧ r.f2 ≤ 16) :
  Calls Try.prog 57 #[.slice A0 l0.length c0] w fun e w' => e = .returned (.agg (gc (gridF l0))) ∧ Below w.heap.size w w' := by
 have hm : l0.length ≤ 9223372036854775807 := hr0.2.1
 have HR := Aside0.mk hr0
 have HOK := Aside0.mk hok
 clear hr0 hok
 have hu := Try.underlying47
 have z0 := zero66
 have hst := run_storeCells_new (P := Try.prog) (w.alloc (.cells (gc fun _ => false) 75)) 75 (gc fun _ => false) (gc fun _ => false) (by rw [gc_size]; exact info66) rfl (gc_one _)
 simp only [World.size_alloc] at hst
 go_enter Try.func57, Try.ntmps57
 go_wp2
 go_loopw [10] (fun v10 W => ∃ k : Nat, v10 = .int .i64 k ∧ k ≤ l0.length ∧ GridAt W (w.heap.size + 1) (gridF (l0.take k)) ∧ GridAt W w.heap.size (fun _ => false) ∧ Aside0 (Below w.heap.size w W)) (fun v10 _ => l0.length - (intOf v10).toNat)
 case atStart =>
  refine ⟨0, rfl, by omega, ?_, (GridAt.new _ _).alloc _, ⟨((Below.refl _ _).alloc (Nat.le_refl _) _).alloc (by simp) _⟩⟩
  have h := GridAt.new (w.alloc (.cells (gc fun _ => false) 75)) (fun _ => false)
  simp only [World.size_alloc] at h
  exact h.congr (fun p _ => by simp [gridF])
 case round =>
  obtain ⟨k, rfl, hk, hg, hg2, hb⟩ := hrel
  clear hst
  obtain ⟨wo, rfl⟩ : ∃ wo : World, wo = wr := ⟨_, rfl⟩
  by_cases hlt : k < l0.length
  ·have hdk : decide ((k : Int) < (l0.length : Int)) = true := by simp; omega
   obtain ⟨ad, e, hx0, hx1, hx2⟩ := at_T47 HR.out (k : Int) (by omega) (by omega)
   cases e
   have er : rd_T47 l0 (k : Int) = l0[k] := by simp [rd_T47, hlt]
   have ho := HOK.out l0[k] (List.getElem_mem hlt)
   have HGS := Aside0.mk (gridF_succ l0 k hlt)
   rw [er, Int.toNat_natCast] at hx0 hx1 hx2
   clear er
   generalize l0[k] = r at *
   obtain ⟨Y, hY⟩ := Int.eq_ofNat_of_zero_le ho.1
   obtain ⟨F, hF⟩ := Int.eq_ofNat_of_zero_le ho.2.2.1
   have ho2 := ho.2.1
   have ho4 := ho.2.2.2
   clear ho
   rw [hY] at hx0 ho2
   rw [hF] at hx1
   replace hx0 := (hb.out.cell (World.block_lt_of_cell? w _ hx0)).trans hx0
   replace hx1 := (hb.out.cell (World.block_lt_of_cell? w _ hx1)).trans hx1
   replace hx2 := (hb.out.cell (World.block_lt_of_cell? w _ hx2)).trans hx2
   have HY := Aside0.mk hY
   have HF := Aside0.mk hF
   clear hY hF
   go_wp2
   have hlt2 := hg.lt
   go_loopw [6] (fun v6 W => ∃ x : Nat, v6 = .int .i64 x ∧ F ≤ x ∧ ((x : Int) ≤ r.f2 ∨ x = F) ∧ GridAt W (w.heap.size + 1) (fun p => gridF (l0.take k) p || runTo r x p) ∧ GridAt W w.heap.size (fun _ => false) ∧ Aside0 (W.heap[wo.heap.size]? = some (.cells #[.int .i64 (Y : Int), .int .i64 (F : Int), .int .i64 r.f2] 47 (0, 0))) ∧ Aside0 (Below w.heap.size w W)) (fun v6 _ => 17 - (intOf v6).toNat + (r.f2 - (intOf v6)).toNat)
   case atStart =>
    refine ⟨F, rfl, Nat.le_refl _, .inr rfl, (hg.alloc _).congr (fun p _ => ?_), hg2.alloc _, ⟨blk_new _ _⟩, ⟨below_alloc hb.out _⟩⟩
    have : runTo r F p = false := by
     unfold runTo
     rw [HF.out]
     by_cases c : ((F : Nat) : Int) ≤ ((p % 16 : Nat) : Int)
     ·rw [decide_eq_false (show ¬ p % 16 < F by omega), Bool.and_false]
     ·rw [decide_eq_false c, Bool.and_false, Bool.false_and]
    rw [this, Bool.or_false]
   case round =>
    clear hg hg2 hb
    obtain ⟨x, rfl, hFx, hx, hg, hg2, hr, hb⟩ := hrel
    have hc0 : wr.cell? ⟨wo.heap.size, 0, none⟩ = some (.int .i64 (Y : Int)) := (blk_cell hr.out 0).trans rfl
    have hc2 : wr.cell? ⟨wo.heap.size, 2, none⟩ = some (.int .i64 r.f2) := (blk_cell hr.out 2).trans rfl
    by_cases hxt : (x : Int) < r.f2
    ·have hdx : decide ((x : Int) < r.f2) = true := by simpa using hxt
     have hcg := hg.cell (Y * 16 + x) (by omega)
     have hfg := hg.free (Y * 16 + x)
     have hx16 : x < 16 := by omega
     go_wp2
     go_roundw
     case rel => exact ⟨x + 1, by go_num, by omega, .inl (by omega), (hg.set_ (Y * 16 + x) true).congr (fun p _ => runTo_step r Y x HY.out hx16 (by rw [HF.out]; omega) _ p), blk_far hg2 (by simp) _, ⟨blk_far hr.out (by simp; omega) _⟩, ⟨below_set hb.out (by omega)⟩⟩
     case measure => simp [intOf]; omega
    ·have hdx : decide ((x : Int) < r.f2) = false := by simpa using hxt
     go_wp2
     go_roundw
     case rel =>
      refine ⟨k + 1, by go_num, by omega, hg.congr (fun p _ => ?_), hg2, hb⟩
      rw [HGS.out]
      congr 1
      unfold runTo runIn
      rw [HF.out]
      by_cases c : ((F : Nat) : Int) ≤ ((p % 16 : Nat) : Int)
      ·congr 1
       rw [decide_eq_decide]
       omega
      ·rw [decide_eq_false c, Bool.and_false, Bool.false_and, Bool.false_and]
     case measure => simp [intOf]; omega
  ·have hdk : decide ((k : Int) < (l0.length : Int)) = false := by simp; omega
   have hkl : k = l0.length := by omega
   subst hkl
   have hi : (Try.prog.info? 75).map (·.size) = some (gc (gridF l0)).size := by rw [gc_size]; exact info66
   have hold : (gc fun _ => false).size = (gc (gridF l0)).size := by rw [gc_size, gc_size]
   have h1 := gc_one (gridF l0)
   rw [List.take_length] at hg
   have hg' : wo.heap[w.heap.size + 1]? = some (.cells (gc (gridF l0)) 75 (0, 0)) := hg
   have hg2' : wo.heap[w.heap.size]? = some (.cells (gc fun _ => false) 75 (0, 0)) := hg2
   go_wp2_with (first
    | ((with_reducible refine gate_dst (N := 28) rfl ?_); refine wpList_load_row rfl 75 (.tmp 3) rfl (w.heap.size + 1) rfl 75 (gc (gridF l0)) (0, 0) (.array 16 73) hg' underlying66 rfl hi ?_)
    | ((with_reducible refine wpList_store_row rfl 75 (.tmp 2) (.tmp 28) rfl w.heap.size (gc (gridF l0)) ?hx ?hy 75 (gc fun _ => false) hg2' hi hold h1 ?_); (case hx => rfl); (case hy => rfl)))
   refine bodyPost_ret (results_cell_row rfl _ _ w.heap.size 75 (gc (gridF l0)) (0, 0) (.array 16 73) rfl (hg2.setRow (gridF l0)) underlying66 rfl hi) rfl ?_
   exact ⟨rfl, below_setRow hb.out (Nat.le_refl _) _⟩

/- What a block's cells hold, told at once; and what the world at the call's begin held. -/

theorem bc {w W : World} {a : Addr} {v : Value} (h : Below w.heap.size w W) (hc : w.cell? a = some v) : W.cell? a = some v := (h.cell (World.block_lt_of_cell? w _ hc)).trans hc
theorem c2 {w : World} {g t : Nat} {a0 a1 : Value} (h : w.heap[g]? = some (.cells #[a0, a1] t (0, 0))) : w.cell? ⟨g, 0, none⟩ = some a0 ∧ w.cell? ⟨g, 1, none⟩ = some a1 ∧ w.frozen? ⟨g, 0, none⟩ = false ∧ w.frozen? ⟨g, 1, none⟩ = false := ⟨(blk_cell h 0).trans rfl, (blk_cell h 1).trans rfl, blk_frozen h 0, blk_frozen h 1⟩
theorem c3 {w : World} {g t : Nat} {a0 a1 a2 : Value} (h : w.heap[g]? = some (.cells #[a0, a1, a2] t (0, 0))) : w.cell? ⟨g, 0, none⟩ = some a0 ∧ w.cell? ⟨g, 1, none⟩ = some a1 ∧ w.cell? ⟨g, 2, none⟩ = some a2 ∧ w.frozen? ⟨g, 0, none⟩ = false ∧ w.frozen? ⟨g, 1, none⟩ = false ∧ w.frozen? ⟨g, 2, none⟩ = false := ⟨(blk_cell h 0).trans rfl, (blk_cell h 1).trans rfl, (blk_cell h 2).trans rfl, blk_frozen h 0, blk_frozen h 1, blk_frozen h 2⟩
theorem c4 {w : World} {g t : Nat} {a0 a1 a2 a3 : Value} (h : w.heap[g]? = some (.cells #[a0, a1, a2, a3] t (0, 0))) : w.cell? ⟨g, 0, none⟩ = some a0 ∧ w.cell? ⟨g, 1, none⟩ = some a1 ∧ w.cell? ⟨g, 2, none⟩ = some a2 ∧ w.cell? ⟨g, 3, none⟩ = some a3 ∧ w.frozen? ⟨g, 0, none⟩ = false ∧ w.frozen? ⟨g, 1, none⟩ = false ∧ w.frozen? ⟨g, 2, none⟩ = false ∧ w.frozen? ⟨g, 3, none⟩ = false := ⟨(blk_cell h 0).trans rfl, (blk_cell h 1).trans rfl, (blk_cell h 2).trans rfl, (blk_cell h 3).trans rfl, blk_frozen h 0, blk_frozen h 1, blk_frozen h 2, blk_frozen h 3⟩
theorem c6 {w : World} {g t : Nat} {a0 a1 a2 a3 a4 a5 : Value} (h : w.heap[g]? = some (.cells #[a0, a1, a2, a3, a4, a5] t (0, 0))) : w.cell? ⟨g, 0, none⟩ = some a0 ∧ w.cell? ⟨g, 1, none⟩ = some a1 ∧ w.cell? ⟨g, 2, none⟩ = some a2 ∧ w.cell? ⟨g, 3, none⟩ = some a3 ∧ w.cell? ⟨g, 4, none⟩ = some a4 ∧ w.cell? ⟨g, 5, none⟩ = some a5 ∧ w.frozen? ⟨g, 0, none⟩ = false ∧ w.frozen? ⟨g, 1, none⟩ = false ∧ w.frozen? ⟨g, 2, none⟩ = false ∧ w.frozen? ⟨g, 3, none⟩ = false ∧ w.frozen? ⟨g, 4, none⟩ = false ∧ w.frozen? ⟨g, 5, none⟩ = false := ⟨(blk_cell h 0).trans rfl, (blk_cell h 1).trans rfl, (blk_cell h 2).trans rfl, (blk_cell h 3).trans rfl, (blk_cell h 4).trans rfl, (blk_cell h 5).trans rfl, blk_frozen h 0, blk_frozen h 1, blk_frozen h 2, blk_frozen h 3, blk_frozen h 4, blk_frozen h 5⟩
theorem c9 {w : World} {g t : Nat} {a0 a1 a2 a3 a4 a5 a6 a7 a8 : Value} (h : w.heap[g]? = some (.cells #[a0, a1, a2, a3, a4, a5, a6, a7, a8] t (0, 0))) : w.cell? ⟨g, 0, none⟩ = some a0 ∧ w.cell? ⟨g, 1, none⟩ = some a1 ∧ w.cell? ⟨g, 2, none⟩ = some a2 ∧ w.cell? ⟨g, 3, none⟩ = some a3 ∧ w.cell? ⟨g, 4, none⟩ = some a4 ∧ w.cell? ⟨g, 5, none⟩ = some a5 ∧ w.cell? ⟨g, 6, none⟩ = some a6 ∧ w.cell? ⟨g, 7, none⟩ = some a7 ∧ w.cell? ⟨g, 8, none⟩ = some a8 ∧ w.frozen? ⟨g, 0, none⟩ = false ∧ w.frozen? ⟨g, 1, none⟩ = false ∧ w.frozen? ⟨g, 2, none⟩ = false ∧ w.frozen? ⟨g, 3, none⟩ = false ∧ w.frozen? ⟨g, 4, none⟩ = false ∧ w.frozen? ⟨g, 5, none⟩ = false ∧ w.frozen? ⟨g, 6, none⟩ = false ∧ w.frozen? ⟨g, 7, none⟩ = false ∧ w.frozen? ⟨g, 8, none⟩ = false := ⟨(blk_cell h 0).trans rfl, (blk_cell h 1).trans rfl, (blk_cell h 2).trans rfl, (blk_cell h 3).trans rfl, (blk_cell h 4).trans rfl, (blk_cell h 5).trans rfl, (blk_cell h 6).trans rfl, (blk_cell h 7).trans rfl, (blk_cell h 8).trans rfl, blk_frozen h 0, blk_frozen h 1, blk_frozen h 2, blk_frozen h 3, blk_frozen h 4, blk_frozen h 5, blk_frozen h 6, blk_frozen h 7, blk_frozen h 8⟩
theorem R4 {α : Type} {d : Kd α} {e : Nat} {w : World} {base g : Nat} {ok : Nat → Prop} {v : Value} {xs : List α} (h : Kd.R d e w base (fun k => ok k ∧ k ≠ g) v xs) (a b c z : Value) : Kd.R d e ((((w.setCell ⟨g, 0, none⟩ a).setCell ⟨g, 1, none⟩ b).setCell ⟨g, 2, none⟩ c).setCell ⟨g, 3, none⟩ z) base (fun k => ok k ∧ k ≠ g) v xs := Kd.R_far (Kd.R_far (Kd.R_far (Kd.R_far h (fun _ k => k.2) a) (fun _ k => k.2) b) (fun _ k => k.2) c) (fun _ k => k.2) z
theorem Q4 {α : Type} {d : Kd α} {e : Nat} {w : World} {base g : Nat} {ok : Nat → Prop} {v : Value} {xs : List α} (h : Kd.Q d e w base (fun k => ok k ∧ k ≠ g) v xs) (a b c z : Value) : Kd.Q d e ((((w.setCell ⟨g, 0, none⟩ a).setCell ⟨g, 1, none⟩ b).setCell ⟨g, 2, none⟩ c).setCell ⟨g, 3, none⟩ z) base (fun k => ok k ∧ k ≠ g) v xs := Kd.Q_far (Kd.Q_far (Kd.Q_far (Kd.Q_far h (fun _ k => k.2) a) (fun _ k => k.2) b) (fun _ k => k.2) c) (fun _ k => k.2) z
theorem p4 {w : World} {g t : Nat} {a b c z : Value} (a' b' c' z' : Value) (h : w.heap[g]? = some (.cells #[a', b', c', z'] t (0, 0))) : ((((w.setCell ⟨g, 0, none⟩ a).setCell ⟨g, 1, none⟩ b).setCell ⟨g, 2, none⟩ c).setCell ⟨g, 3, none⟩ z).heap[g]? = some (.cells #[a, b, c, z] t (0, 0)) := by
  refine blk_put (cs := #[a, b, c, z']) ?_ 3 _ rfl; refine blk_put (cs := #[a, b, c', z']) ?_ 2 _ rfl; refine blk_put (cs := #[a, b', c', z']) ?_ 1 _ rfl; exact blk_put (cs := #[a', b', c', z']) h 0 _ rfl
theorem f4 {w : World} {g q t : Nat} {cs : Array Value} {a b c z : Value} (h : w.heap[q]? = some (.cells cs t (0, 0))) (n : q ≠ g) : ((((w.setCell ⟨g, 0, none⟩ a).setCell ⟨g, 1, none⟩ b).setCell ⟨g, 2, none⟩ c).setCell ⟨g, 3, none⟩ z).heap[q]? = some (.cells cs t (0, 0)) := blk_far (blk_far (blk_far (blk_far h n _) n _) n _) n _
theorem e4 {w : World} {g : Nat} {x : Addr} {v : Value} {a b c z : Value} (n : x.block ≠ g) (h : w.cell? x = some v) : ((((w.setCell ⟨g, 0, none⟩ a).setCell ⟨g, 1, none⟩ b).setCell ⟨g, 2, none⟩ c).setCell ⟨g, 3, none⟩ z).cell? x = some v := (cell_far n _).trans ((cell_far n _).trans ((cell_far n _).trans ((cell_far n _).trans h)))

def impl_bounds.l0 : Nat → List S47 → Int → Int → List S47 → Int → Int → Option (Int × Int × Int × Int)
 | 0, _, _, _, _, _, _ => none
 | k + 1, x0, x3, x4, x9, x10, x11 => if x11 < x10 then (if 0 ≤ x11 then (if x11 < (x9.length : Int) then (impl_bounds.l0 k x0 (mn x3 ((rd_T47 x9 x11).f1)) (mx x4 ((rd_T47 x9 x11).f2)) x9 x10 (wrap64 (x11 + 1))) else none) else none) else (if 0 < (x0.length : Int) then (if 0 ≤ (wrap64 ((x0.length : Int) - 1)) then (if (wrap64 ((x0.length : Int) - 1)) < (x0.length : Int) then (some (x3, (rd_T47 x0 0).f0, wrap64 (x4 - x3), wrap64 ((wrap64 (((rd_T47 x0 (wrap64 ((x0.length : Int) - 1))).f0) - ((rd_T47 x0 0).f0))) + 1))) else none) else none) else none)
def impl_bounds.f (k : Nat) (l0 : List S47) : Option (Int × Int × Int × Int) := impl_bounds.l0 k l0 16 0 l0 (l0.length : Int) 0
theorem impl_bounds.calls (k : Nat) (A0 : Option Addr) (c0 : Nat) (l0 : List S47) (r1 : Int) (r2 : Int) (r3 : Int) (r4 : Int) (w : World) (hr0 : Kd.C k47 w A0 l0.length l0) (hc0 : l0.length ≤ c0) (h : impl_bounds.f k l0 = some (r1, r2, r3, r4)) :
  Calls Try.prog 78 #[.slice A0 l0.length c0] w fun e w' => e = .returned (.agg #[.int .i64 r1, .int .i64 r2, .int .i64 r3, .int .i64 r4]) ∧ Below w.heap.size w w' := by
 have HR0 := mk hr0
 clear hr0 hc0
 have HB := mk (Below.refl w.heap.size w)
 have H : (impl_bounds.l0 k l0 16 0 l0 (l0.length : Int) 0) = some (r1, r2, r3, r4) := h
 clear h
 have H' := mk H
 clear H
 go_enter Try.func78, Try.ntmps78
 go_wp2_with (first | ((with_reducible refine gate_dst (N := 2) rfl ?_); refine box_event (by rfl) (N := 2) (by rfl) (cs := #[.int .i64 0, .int .i64 0, .int .i64 0, .int .i64 0]) (t := 60) (by go_simp; done) ?_; intro gbz0 hg w2 hbox hb; have BKz0 := mk (hbox); have GEz0 := mk ((by rw [hg]; exact (below_size HB.out) : w.heap.size ≤ gbz0)); replace HB := mk (below_step HB.out hb); clear hb hbox hg))
 repeat (go_quiet (first | ((with_reducible refine gate_dst (N := 2) rfl ?_); refine box_event ?hg (N := 2) ?hd (cs := #[.int .i64 0, .int .i64 0, .int .i64 0, .int .i64 0]) (t := 60) ?hr ?_; (case hd => rfl); (case hg => rfl); (case hr => first | (go_simp; done) | (go_simp; rfl)); intro gbz0 hg w2 hbox hb; have BKz0 := mk (hbox); have GWz0 := mk ((by rw [hg]; exact (below_size (by repeat (first | (with_reducible first | exact HB.out | apply below_alloc | apply pw_below_drewN | apply below_drew1) | exact HB.out))) : w.heap.size ≤ gbz0)); have GEz0 := mk ((by rw [hg]; exact (below_size (by repeat (first | (with_reducible first | exact HB.out | apply below_alloc | apply pw_below_drewN | apply below_drew1) | exact HB.out))) : w.heap.size ≤ gbz0)); replace HB := mk (below_step (by repeat (first | (with_reducible first | exact HB.out | apply below_alloc | apply pw_below_drewN | apply below_drew1) | exact HB.out)) hb); clear hb hbox hg)); try go_wp2_with (first | ((with_reducible refine gate_dst (N := 2) rfl ?_); refine box_event ?hg (N := 2) ?hd (cs := #[.int .i64 0, .int .i64 0, .int .i64 0, .int .i64 0]) (t := 60) ?hr ?_; (case hd => rfl); (case hg => rfl); (case hr => first | (go_simp; done) | (go_simp; rfl)); intro gbz0 hg w2 hbox hb; have BKz0 := mk (hbox); have GWz0 := mk ((by rw [hg]; exact (below_size (by repeat (first | (with_reducible first | exact HB.out | apply below_alloc | apply pw_below_drewN | apply below_drew1) | exact HB.out))) : w.heap.size ≤ gbz0)); have GEz0 := mk ((by rw [hg]; exact (below_size (by repeat (first | (with_reducible first | exact HB.out | apply below_alloc | apply pw_below_drewN | apply below_drew1) | exact HB.out))) : w.heap.size ≤ gbz0)); replace HB := mk (below_step (by repeat (first | (with_reducible first | exact HB.out | apply below_alloc | apply pw_below_drewN | apply below_drew1) | exact HB.out)) hb); clear hb hbox hg)))
 go_loopg [3, 4, 11] k (fun kq v3 v4 v11 w' => ∃ (x3_1 : Int) (x4_1 : Int) (x11_1 : Int), v3 = .int .i64 x3_1 ∧ v4 = .int .i64 x4_1 ∧ v11 = .int .i64 x11_1 ∧ Aside0 (impl_bounds.l0 kq l0 x3_1 x4_1 l0 (l0.length : Int) x11_1 = some (r1, r2, r3, r4)) ∧ Aside0 (kq ≤ k) ∧ Aside0 (w'.heap[gbz0]? = some (.cells #[.int .i64 0, .int .i64 0, .int .i64 0, .int .i64 0] 60 (0, 0))) ∧ Aside0 (Below w.heap.size w w'))
 case atStart => exact ⟨(16), (0), (0), (by rfl), (by rfl), (by rfl), H', ⟨Nat.le_refl _⟩, BKz0, HB⟩
 case round =>
  clear H'
  obtain ⟨x3_1, x4_1, x11_1, rfl, rfl, rfl, HA, HK1, BKz0, HB⟩ := hrel
  cases gk with
  | zero => exact absurd HA.out (by simp [impl_bounds.l0])
  | succ k1 =>
   have H := HA.out
   clear HA
   simp only [impl_bounds.l0] at H
   by_cases c3 : x11_1 < (l0.length : Int)
   ·rw [if_pos c3] at H
    have c3b0 : decide (x11_1 < (l0.length : Int)) = true := decide_eq_true c3
    clear c3
    by_cases c4 : 0 ≤ x11_1
    ·rw [if_pos c4] at H
     have c4b0 : decide (0 ≤ x11_1) = true := decide_eq_true c4
     clear c4
     by_cases c5 : x11_1 < (l0.length : Int)
     ·rw [if_pos c5] at H
      have c5b0 : decide (x11_1 < (l0.length : Int)) = true := decide_eq_true c5
      clear c5
      obtain ⟨ji6, hji6⟩ : ∃ j_ : Int, (mn x3_1 ((rd_T47 l0 x11_1).f1)) = j_ := ⟨_, rfl⟩
      replace H : (impl_bounds.l0 k1 l0 ji6 (mx x4_1 ((rd_T47 l0 x11_1).f2)) l0 (l0.length : Int) (wrap64 (x11_1 + 1))) = some (r1, r2, r3, r4) := by (rw [hji6] at H; exact H)
      have hji6_ : (if ((rd_T47 l0 x11_1).f1) < x3_1 then ((rd_T47 l0 x11_1).f1) else x3_1) = ji6 := hji6
      obtain ⟨ji7, hji7⟩ : ∃ j_ : Int, (mx x4_1 ((rd_T47 l0 x11_1).f2)) = j_ := ⟨_, rfl⟩
      replace H : (impl_bounds.l0 k1 l0 ji6 ji7 l0 (l0.length : Int) (wrap64 (x11_1 + 1))) = some (r1, r2, r3, r4) := by (rw [hji7] at H; exact H)
      have hji7_ : (if x4_1 < ((rd_T47 l0 x11_1).f2) then ((rd_T47 l0 x11_1).f2) else x4_1) = ji7 := hji7
      have H' := mk H
      clear H
      have p79002 : 0 ≤ (x11_1 : Int) := of_decide_eq_true (by (with_reducible assumption))
      have q79002 : x11_1 < (l0.length : Int) := of_decide_eq_true (by (with_reducible assumption))
      obtain ⟨ad79002, e79002, hx79002_0, hx79002_1, hx79002_2⟩ := at_T47 HR0.out x11_1 p79002 q79002
      cases e79002
      replace hx79002_0 := bc HB.out hx79002_0
      replace hx79002_1 := bc HB.out hx79002_1
      replace hx79002_2 := bc HB.out hx79002_2
      replace p79002 := eq_true p79002
      replace q79002 := eq_true q79002
      go_wp2_with (first | ((with_reducible refine gate_dst (N := 6) rfl ?_); refine box_event (by rfl) (N := 6) (by rfl) (cs := #[.int .i64 0, .int .i64 0, .int .i64 0]) (t := 47) (by go_simp; done) ?_; intro gbz1 hg w8 hbox hb; have BKz1 := mk (hbox); have GEz1 := mk ((by rw [hg]; exact (below_size HB.out) : w.heap.size ≤ gbz1)); replace HB := mk (below_step HB.out hb); have NBz0 := mk ((by rw [hg]; exact Nat.ne_of_lt (blk_lt BKz0.out) : gbz0 ≠ gbz1)); replace BKz0 := mk (blk_below BKz0.out hb); clear hb hbox hg; obtain ⟨hcz10_0, hcz10_1, hcz10_2, hfz10_0, hfz10_1, hfz10_2⟩ := c3 BKz1.out))
      repeat (go_quiet (first | ((with_reducible refine gate_dst (N := 6) rfl ?_); refine box_event ?hg (N := 6) ?hd (cs := #[.int .i64 0, .int .i64 0, .int .i64 0]) (t := 47) ?hr ?_; (case hd => rfl); (case hg => rfl); (case hr => first | (go_simp; done) | (go_simp; rfl)); intro gbz1 hg w8 hbox hb; have BKz1 := mk (hbox); have GWz1 := mk ((by rw [hg]; exact (below_size (by repeat (first | (with_reducible first | exact HB.out | apply below_alloc | apply pw_below_drewN | apply below_drew1 | refine below_set ?_ GEz0.out) | exact HB.out))) : w.heap.size ≤ gbz1)); have GEz1 := mk ((by rw [hg]; exact (below_size (by repeat (first | (with_reducible first | exact HB.out | apply below_alloc | apply pw_below_drewN | apply below_drew1 | refine below_set ?_ GEz0.out) | exact HB.out))) : w.heap.size ≤ gbz1)); replace HB := mk (below_step (by repeat (first | (with_reducible first | exact HB.out | apply below_alloc | apply pw_below_drewN | apply below_drew1 | refine below_set ?_ GEz0.out) | exact HB.out)) hb); have NBz0 := mk ((by rw [hg]; exact Nat.ne_of_lt (blk_lt (g := gbz0) (o := .cells #[.int .i64 0, .int .i64 0, .int .i64 0, .int .i64 0] 60 (0, 0)) (by exact BKz0.out)) : gbz0 ≠ gbz1)); have NBz1 := mk ((by rw [hg]; exact Nat.ne_of_gt (blk_lt (g := gbz0) (o := .cells #[.int .i64 0, .int .i64 0, .int .i64 0, .int .i64 0] 60 (0, 0)) (by exact BKz0.out)) : gbz1 ≠ gbz0)); replace BKz0 := mk (blk_below (g := gbz0) (o := .cells #[.int .i64 0, .int .i64 0, .int .i64 0, .int .i64 0] 60 (0, 0)) (by exact BKz0.out) hb); clear hb hbox hg; have hnb9 := NBz1.out; have hnc9 := NBz0.out; obtain ⟨hcz10_0, hcz10_1, hcz10_2, hfz10_0, hfz10_1, hfz10_2⟩ := c3 BKz1.out)); try go_wp2_with (first | ((with_reducible refine gate_dst (N := 6) rfl ?_); refine box_event ?hg (N := 6) ?hd (cs := #[.int .i64 0, .int .i64 0, .int .i64 0]) (t := 47) ?hr ?_; (case hd => rfl); (case hg => rfl); (case hr => first | (go_simp; done) | (go_simp; rfl)); intro gbz1 hg w8 hbox hb; have BKz1 := mk (hbox); have GWz1 := mk ((by rw [hg]; exact (below_size (by repeat (first | (with_reducible first | exact HB.out | apply below_alloc | apply pw_below_drewN | apply below_drew1 | refine below_set ?_ GEz0.out) | exact HB.out))) : w.heap.size ≤ gbz1)); have GEz1 := mk ((by rw [hg]; exact (below_size (by repeat (first | (with_reducible first | exact HB.out | apply below_alloc | apply pw_below_drewN | apply below_drew1 | refine below_set ?_ GEz0.out) | exact HB.out))) : w.heap.size ≤ gbz1)); replace HB := mk (below_step (by repeat (first | (with_reducible first | exact HB.out | apply below_alloc | apply pw_below_drewN | apply below_drew1 | refine below_set ?_ GEz0.out) | exact HB.out)) hb); have NBz0 := mk ((by rw [hg]; exact Nat.ne_of_lt (blk_lt (g := gbz0) (o := .cells #[.int .i64 0, .int .i64 0, .int .i64 0, .int .i64 0] 60 (0, 0)) (by exact BKz0.out)) : gbz0 ≠ gbz1)); have NBz1 := mk ((by rw [hg]; exact Nat.ne_of_gt (blk_lt (g := gbz0) (o := .cells #[.int .i64 0, .int .i64 0, .int .i64 0, .int .i64 0] 60 (0, 0)) (by exact BKz0.out)) : gbz1 ≠ gbz0)); replace BKz0 := mk (blk_below (g := gbz0) (o := .cells #[.int .i64 0, .int .i64 0, .int .i64 0, .int .i64 0] 60 (0, 0)) (by exact BKz0.out) hb); clear hb hbox hg; have hnb9 := NBz1.out; have hnc9 := NBz0.out; obtain ⟨hcz10_0, hcz10_1, hcz10_2, hfz10_0, hfz10_1, hfz10_2⟩ := c3 BKz1.out)))
      go_roundg k1
      case measure => have := HK1.out; omega
      case rel => exact ⟨(ji6), (ji7), (wrap64 (x11_1 + 1)), (by rfl), (by rfl), (by rfl), H', ⟨by have := HK1.out; omega⟩, ⟨by refine blk_far ?_ NBz0.out _; refine blk_far ?_ NBz0.out _; refine blk_far ?_ NBz0.out _; exact BKz0.out⟩, ⟨by repeat (with_reducible first | exact HB.out | refine below_set ?_ GEz1.out)⟩⟩
     rw [if_neg c5] at H
     exact absurd H (by simp)
    rw [if_neg c4] at H
    exact absurd H (by simp)
   rw [if_neg c3] at H
   have c3b0 : decide (x11_1 < (l0.length : Int)) = false := decide_eq_false c3
   clear c3
   by_cases c11 : 0 < (l0.length : Int)
   ·rw [if_pos c11] at H
    have c11b0 : decide (0 < (l0.length : Int)) = true := decide_eq_true c11
    clear c11
    obtain ⟨ji12, hji12⟩ : ∃ j_ : Int, (wrap64 ((l0.length : Int) - 1)) = j_ := ⟨_, rfl⟩
    replace H : (if 0 ≤ ji12 then (if ji12 < (l0.length : Int) then (some (x3_1, (rd_T47 l0 0).f0, wrap64 (x4_1 - x3_1), wrap64 ((wrap64 (((rd_T47 l0 ji12).f0) - ((rd_T47 l0 0).f0))) + 1))) else none) else none) = some (r1, r2, r3, r4) := by (rw [hji12] at H; exact H)
    have hji12w : (IntKind.i64.wrap ((l0.length : Int) - 1)) = ji12 := (i64_w _).trans hji12
    by_cases c13 : 0 ≤ (ji12)
    ·rw [if_pos c13] at H
     have c13b0 : decide (0 ≤ ji12) = true := decide_eq_true c13
     clear c13
     by_cases c14 : ji12 < (l0.length : Int)
     ·rw [if_pos c14] at H
      have c14b0 : decide (ji12 < (l0.length : Int)) = true := decide_eq_true c14
      clear c14
      simp only [Option.some.injEq, Prod.mk.injEq] at H
      obtain ⟨rfl, rfl, rfl, rfl⟩ := H
      have p79004 : 0 ≤ (0 : Int) := (by omega)
      have q79004 : 0 < (l0.length : Int) := of_decide_eq_true (by (with_reducible assumption))
      obtain ⟨ad79004, e79004, hx79004_0, hx79004_1, hx79004_2⟩ := at_T47 HR0.out 0 p79004 q79004
      cases e79004
      have qi79004 : (0 < l0.length) = True := eq_true (by omega)
      (try rw [show (0 : Int).toNat = 0 from rfl] at hx79004_0)
      (try rw [show 0 * 3 = 0 from rfl] at hx79004_0)
      (try rw [Addr.add_zero'] at hx79004_0)
      (try rw [show (0 : Int).toNat = 0 from rfl] at hx79004_1)
      (try rw [show 0 * 3 = 0 from rfl] at hx79004_1)
      (try rw [Addr.add_zero'] at hx79004_1)
      (try rw [show (0 : Int).toNat = 0 from rfl] at hx79004_2)
      (try rw [show 0 * 3 = 0 from rfl] at hx79004_2)
      (try rw [Addr.add_zero'] at hx79004_2)
      replace hx79004_0 := bc HB.out hx79004_0
      replace hx79004_1 := bc HB.out hx79004_1
      replace hx79004_2 := bc HB.out hx79004_2
      replace p79004 := eq_true p79004
      replace q79004 := eq_true q79004
      have p79005 : 0 ≤ (ji12 : Int) := of_decide_eq_true (by (with_reducible assumption))
      have q79005 : ji12 < (l0.length : Int) := of_decide_eq_true (by (with_reducible assumption))
      obtain ⟨ad79005, e79005, hx79005_0, hx79005_1, hx79005_2⟩ := at_T47 HR0.out ji12 p79005 q79005
      obtain rfl : ad79004 = ad79005 := (by injection e79005)
      replace hx79005_0 := bc HB.out hx79005_0
      replace hx79005_1 := bc HB.out hx79005_1
      replace hx79005_2 := bc HB.out hx79005_2
      replace p79005 := eq_true p79005
      replace q79005 := eq_true q79005
      obtain ⟨hcz15_0, hcz15_1, hcz15_2, hcz15_3, hfz15_0, hfz15_1, hfz15_2, hfz15_3⟩ := c4 BKz0.out
      go_wp2
      repeat (go_quiet (fail); try go_wp2)
      refine bodyPost_ret (results_cell_row rfl _ _ gbz0 60 #[.int .i64 x3_1, .int .i64 ((rd_T47 l0 0).f0), .int .i64 (wrap64 (x4_1 - x3_1)), .int .i64 (wrap64 ((wrap64 (((rd_T47 l0 ji12).f0) - ((rd_T47 l0 0).f0))) + 1))] (0, 0) _ rfl (by refine p4 (.int .i64 0) (.int .i64 0) (.int .i64 0) (.int .i64 0) ?_; (with_reducible repeat (refine blk_drewN ?_ _)); exact BKz0.out) Try.underlying60 rfl (by kernel_rfl)) rfl ?_
      exact ⟨by rfl, by repeat (with_reducible first | exact HB.out | apply pw_below_drewN | refine below_set ?_ GEz0.out)⟩
     rw [if_neg c14] at H
     exact absurd H (by simp)
    rw [if_neg c13] at H
    exact absurd H (by simp)
   rw [if_neg c11] at H
   exact absurd H (by simp)


def spec_sameShape.f (k : Nat) (a0_0 : Int) (a0_1 : Int) (a0_2 : Int) (l0_3 : List Int) (a1_0 : Int) (a1_1 : Int) (a1_2 : Int) (l1_3 : List Int) : Option Bool := (spec_validImage.f k a0_0 a0_1 a0_2 l0_3).bind fun tz1 => (if tz1 = true then ((spec_validImage.f k a1_0 a1_1 a1_2 l1_3).bind fun tz0 => (if tz0 = true then (if a0_0 = a1_0 then (if a0_1 = a1_1 then (some (a0_2 == a1_2)) else (some false)) else (some false)) else (some false))) else (some false))
theorem spec_sameShape.calls (k : Nat) (a0_0 : Int) (a0_1 : Int) (a0_2 : Int) (A0_3 : Option Addr) (c0_3 : Nat) (l0_3 : List Int) (a1_0 : Int) (a1_1 : Int) (a1_2 : Int) (A1_3 : Option Addr) (c1_3 : Nat) (l1_3 : List Int) (r : Bool) (w : World) (hr0_3 : Kd.C (Kd.int .i64) w A0_3 l0_3.length l0_3) (hc0_3 : l0_3.length ≤ c0_3) (hr1_3 : Kd.C (Kd.int .i64) w A1_3 l1_3.length l1_3) (hc1_3 : l1_3.length ≤ c1_3) (h : spec_sameShape.f k a0_0 a0_1 a0_2 l0_3 a1_0 a1_1 a1_2 l1_3 = some r) :
  Calls Try.prog 45 #[.agg #[.int .i64 a0_0, .int .i64 a0_1, .int .i64 a0_2, .slice A0_3 l0_3.length c0_3], .agg #[.int .i64 a1_0, .int .i64 a1_1, .int .i64 a1_2, .slice A1_3 l1_3.length c1_3]] w fun e w' => e = .returned (.bool r) ∧ Below w.heap.size w w' := by
 have HR0_3 := mk hr0_3
 have HC0_3 := mk hc0_3
 clear hr0_3 hc0_3
 have HR1_3 := mk hr1_3
 have HC1_3 := mk hc1_3
 clear hr1_3 hc1_3
 have HB := mk (Below.refl w.heap.size w)
 have H : ((spec_validImage.f k a0_0 a0_1 a0_2 l0_3).bind fun tz1 => (if tz1 = true then ((spec_validImage.f k a1_0 a1_1 a1_2 l1_3).bind fun tz0 => (if tz0 = true then (if a0_0 = a1_0 then (if a0_1 = a1_1 then (some (a0_2 == a1_2)) else (some false)) else (some false)) else (some false))) else (some false))) = some r := h
 clear h
 replace H := Option.bind_eq_some_iff.mp H
 obtain ⟨tz1, A30, H⟩ := H
 replace H : (if tz1 = true then ((spec_validImage.f k a1_0 a1_1 a1_2 l1_3).bind fun tz0 => (if tz0 = true then (if a0_0 = a1_0 then (if a0_1 = a1_1 then (some (a0_2 == a1_2)) else (some false)) else (some false)) else (some false))) else (some false)) = some r := H
 have A3 := mk A30
 clear A30
 by_cases c4 : tz1 = true
 ·subst c4
  have H1 : ((spec_validImage.f k a1_0 a1_1 a1_2 l1_3).bind fun tz0 => (if tz0 = true then (if a0_0 = a1_0 then (if a0_1 = a1_1 then (some (a0_2 == a1_2)) else (some false)) else (some false)) else (some false))) = some r := by rw [if_pos rfl] at H; exact H
  clear H
  have H := H1
  clear H1
  replace H := Option.bind_eq_some_iff.mp H
  obtain ⟨tz0, A50, H⟩ := H
  replace H : (if tz0 = true then (if a0_0 = a1_0 then (if a0_1 = a1_1 then (some (a0_2 == a1_2)) else (some false)) else (some false)) else (some false)) = some r := H
  have A5 := mk A50
  clear A50
  by_cases c6 : tz0 = true
  ·subst c6
   have H1 : (if a0_0 = a1_0 then (if a0_1 = a1_1 then (some (a0_2 == a1_2)) else (some false)) else (some false)) = some r := by rw [if_pos rfl] at H; exact H
   clear H
   have H := H1
   clear H1
   by_cases c7 : a0_0 = a1_0
   ·rw [if_pos c7] at H
    have c7b0 : (a0_0 == a1_0) = true := beq_iff_eq.mpr c7
    have c7b1 : (a0_0 != a1_0) = false := bne_eq_false_iff_eq.mpr c7
    clear c7
    by_cases c8 : a0_1 = a1_1
    ·rw [if_pos c8] at H
     have c8b0 : (a0_1 == a1_1) = true := beq_iff_eq.mpr c8
     clear c8
     obtain rfl := Option.some.inj H
     go_enter Try.func45, Try.ntmps45
     go_wp2_with (first | ((with_reducible refine gate_dst (N := 2) rfl ?_); refine box_event (by rfl) (N := 2) (by rfl) (cs := #[.int .i64 a0_0, .int .i64 a0_1, .int .i64 a0_2, .slice A0_3 l0_3.length c0_3]) (t := 28) (by go_simp; done) ?_; intro gbz0 hg w9 hbox hb; replace HB := mk (below_step HB.out hb); have BKz0 := mk (hbox); clear hb hbox hg) | ((with_reducible refine gate_dst (N := 3) rfl ?_); refine box_event (by rfl) (N := 3) (by rfl) (cs := #[.int .i64 a1_0, .int .i64 a1_1, .int .i64 a1_2, .slice A1_3 l1_3.length c1_3]) (t := 28) (by go_simp; done) ?_; intro gbz1 hg w10 hbox hb; replace BKz0 := mk (blk_below BKz0.out hb); replace HB := mk (below_step HB.out hb); have BKz1 := mk (hbox); clear hb hbox hg; obtain ⟨hcz12_0, hcz12_1, hcz12_2, -⟩ := c4 BKz0.out; have hcz12_3 : w10.cell? ⟨gbz0, 3, none⟩ = some (.slice A0_3 l0_3.length c0_3) := (blk_cell BKz0.out 3).trans rfl) | ((with_reducible refine gate_callee (f := 60) rfl ?_); refine goesL_ (some 6) rfl rfl Try.func60 (by kernel_rfl) rfl #[.agg #[.int .i64 a0_0, .int .i64 a0_1, .int .i64 a0_2, .slice A0_3 l0_3.length c0_3]] rfl (by (try simp only [bitvec_to_nat]); rfl) ?_; (with_reducible refine (spec_validImage.calls k a0_0 a0_1 a0_2 _ _ l0_3 true _ ?side1 ?side2 A3.out).mono ?_); (case side1 => repeat (exact (Kd.C_below HR0_3.out HB.out))); (case side2 => exact HC0_3.out); rintro e w13 ⟨rfl, hb⟩; refine ⟨_, rfl, ?_⟩; replace BKz0 := mk (blk_below BKz0.out hb); replace BKz1 := mk (blk_below BKz1.out hb); replace HB := mk (below_step HB.out hb); (try clear hb); obtain ⟨hcz14_0, hcz14_1, hcz14_2, -⟩ := c4 BKz1.out; have hcz14_3 : w13.cell? ⟨gbz1, 3, none⟩ = some (.slice A1_3 l1_3.length c1_3) := (blk_cell BKz1.out 3).trans rfl) | (go_at_call 60; (with_reducible refine (spec_validImage.calls k a1_0 a1_1 a1_2 _ _ l1_3 true _ ?side1 ?side2 A5.out).mono ?_); (case side1 => repeat (exact (Kd.C_below HR1_3.out HB.out))); (case side2 => exact HC1_3.out); rintro e w15 ⟨rfl, hb⟩; replace BKz0 := mk (blk_below BKz0.out hb); replace BKz1 := mk (blk_below BKz1.out hb); replace HB := mk (below_step HB.out hb); (try clear hb); obtain ⟨hcz16_0, hcz16_1, hcz16_2, -⟩ := c4 BKz0.out; obtain ⟨hcz17_0, hcz17_1, hcz17_2, -⟩ := c4 BKz1.out))
     go_ret
     exact ⟨by rfl, by exact HB.out⟩
    rw [if_neg c8] at H
    have c8b0 : (a0_1 == a1_1) = false := beq_eq_false_iff_ne.mpr c8
    obtain rfl := Option.some.inj H
    go_enter Try.func45, Try.ntmps45
    go_wp2_with (first | ((with_reducible refine gate_dst (N := 2) rfl ?_); refine box_event (by rfl) (N := 2) (by rfl) (cs := #[.int .i64 a0_0, .int .i64 a0_1, .int .i64 a0_2, .slice A0_3 l0_3.length c0_3]) (t := 28) (by go_simp; done) ?_; intro gbz0 hg w18 hbox hb; replace HB := mk (below_step HB.out hb); have BKz0 := mk (hbox); clear hb hbox hg) | ((with_reducible refine gate_dst (N := 3) rfl ?_); refine box_event (by rfl) (N := 3) (by rfl) (cs := #[.int .i64 a1_0, .int .i64 a1_1, .int .i64 a1_2, .slice A1_3 l1_3.length c1_3]) (t := 28) (by go_simp; done) ?_; intro gbz1 hg w19 hbox hb; replace BKz0 := mk (blk_below BKz0.out hb); replace HB := mk (below_step HB.out hb); have BKz1 := mk (hbox); clear hb hbox hg; obtain ⟨hcz21_0, hcz21_1, hcz21_2, -⟩ := c4 BKz0.out; have hcz21_3 : w19.cell? ⟨gbz0, 3, none⟩ = some (.slice A0_3 l0_3.length c0_3) := (blk_cell BKz0.out 3).trans rfl) | ((with_reducible refine gate_callee (f := 60) rfl ?_); refine goesL_ (some 6) rfl rfl Try.func60 (by kernel_rfl) rfl #[.agg #[.int .i64 a0_0, .int .i64 a0_1, .int .i64 a0_2, .slice A0_3 l0_3.length c0_3]] rfl (by (try simp only [bitvec_to_nat]); rfl) ?_; (with_reducible refine (spec_validImage.calls k a0_0 a0_1 a0_2 _ _ l0_3 true _ ?side1 ?side2 A3.out).mono ?_); (case side1 => repeat (exact (Kd.C_below HR0_3.out HB.out))); (case side2 => exact HC0_3.out); rintro e w22 ⟨rfl, hb⟩; refine ⟨_, rfl, ?_⟩; replace BKz0 := mk (blk_below BKz0.out hb); replace BKz1 := mk (blk_below BKz1.out hb); replace HB := mk (below_step HB.out hb); (try clear hb); obtain ⟨hcz23_0, hcz23_1, hcz23_2, -⟩ := c4 BKz1.out; have hcz23_3 : w22.cell? ⟨gbz1, 3, none⟩ = some (.slice A1_3 l1_3.length c1_3) := (blk_cell BKz1.out 3).trans rfl) | (go_at_call 60; (with_reducible refine (spec_validImage.calls k a1_0 a1_1 a1_2 _ _ l1_3 true _ ?side1 ?side2 A5.out).mono ?_); (case side1 => repeat (exact (Kd.C_below HR1_3.out HB.out))); (case side2 => exact HC1_3.out); rintro e w24 ⟨rfl, hb⟩; replace BKz0 := mk (blk_below BKz0.out hb); replace BKz1 := mk (blk_below BKz1.out hb); replace HB := mk (below_step HB.out hb); (try clear hb); obtain ⟨hcz25_0, hcz25_1, -⟩ := c4 BKz0.out; obtain ⟨hcz26_0, hcz26_1, -⟩ := c4 BKz1.out))
    go_ret
    exact ⟨by rfl, by exact HB.out⟩
   rw [if_neg c7] at H
   have c7b0 : (a0_0 == a1_0) = false := beq_eq_false_iff_ne.mpr c7
   obtain rfl := Option.some.inj H
   go_enter Try.func45, Try.ntmps45
   go_wp2_with (first | ((with_reducible refine gate_dst (N := 2) rfl ?_); refine box_event (by rfl) (N := 2) (by rfl) (cs := #[.int .i64 a0_0, .int .i64 a0_1, .int .i64 a0_2, .slice A0_3 l0_3.length c0_3]) (t := 28) (by go_simp; done) ?_; intro gbz0 hg w27 hbox hb; replace HB := mk (below_step HB.out hb); have BKz0 := mk (hbox); clear hb hbox hg) | ((with_reducible refine gate_dst (N := 3) rfl ?_); refine box_event (by rfl) (N := 3) (by rfl) (cs := #[.int .i64 a1_0, .int .i64 a1_1, .int .i64 a1_2, .slice A1_3 l1_3.length c1_3]) (t := 28) (by go_simp; done) ?_; intro gbz1 hg w28 hbox hb; replace BKz0 := mk (blk_below BKz0.out hb); replace HB := mk (below_step HB.out hb); have BKz1 := mk (hbox); clear hb hbox hg; obtain ⟨hcz30_0, hcz30_1, hcz30_2, -⟩ := c4 BKz0.out; have hcz30_3 : w28.cell? ⟨gbz0, 3, none⟩ = some (.slice A0_3 l0_3.length c0_3) := (blk_cell BKz0.out 3).trans rfl) | ((with_reducible refine gate_callee (f := 60) rfl ?_); refine goesL_ (some 6) rfl rfl Try.func60 (by kernel_rfl) rfl #[.agg #[.int .i64 a0_0, .int .i64 a0_1, .int .i64 a0_2, .slice A0_3 l0_3.length c0_3]] rfl (by (try simp only [bitvec_to_nat]); rfl) ?_; (with_reducible refine (spec_validImage.calls k a0_0 a0_1 a0_2 _ _ l0_3 true _ ?side1 ?side2 A3.out).mono ?_); (case side1 => repeat (exact (Kd.C_below HR0_3.out HB.out))); (case side2 => exact HC0_3.out); rintro e w31 ⟨rfl, hb⟩; refine ⟨_, rfl, ?_⟩; replace BKz0 := mk (blk_below BKz0.out hb); replace BKz1 := mk (blk_below BKz1.out hb); replace HB := mk (below_step HB.out hb); (try clear hb); obtain ⟨hcz32_0, hcz32_1, hcz32_2, -⟩ := c4 BKz1.out; have hcz32_3 : w31.cell? ⟨gbz1, 3, none⟩ = some (.slice A1_3 l1_3.length c1_3) := (blk_cell BKz1.out 3).trans rfl) | (go_at_call 60; (with_reducible refine (spec_validImage.calls k a1_0 a1_1 a1_2 _ _ l1_3 true _ ?side1 ?side2 A5.out).mono ?_); (case side1 => repeat (exact (Kd.C_below HR1_3.out HB.out))); (case side2 => exact HC1_3.out); rintro e w33 ⟨rfl, hb⟩; replace BKz0 := mk (blk_below BKz0.out hb); replace BKz1 := mk (blk_below BKz1.out hb); replace HB := mk (below_step HB.out hb); (try clear hb); have hcz34_0 : w33.cell? ⟨gbz0, 0, none⟩ = some (.int .i64 a0_0) := (blk_cell BKz0.out 0).trans rfl; have hcz35_0 : w33.cell? ⟨gbz1, 0, none⟩ = some (.int .i64 a1_0) := (blk_cell BKz1.out 0).trans rfl))
   go_ret
   exact ⟨by rfl, by exact HB.out⟩
  replace c6 := Bool.eq_false_iff.mpr c6
  subst c6
  have H1 : (some false) = some r := by rw [if_neg (show ¬ (false = true) by decide)] at H; exact H
  clear H
  have H := H1
  clear H1
  obtain rfl := Option.some.inj H
  go_enter Try.func45, Try.ntmps45
  go_wp2_with (first | ((with_reducible refine gate_dst (N := 2) rfl ?_); refine box_event (by rfl) (N := 2) (by rfl) (cs := #[.int .i64 a0_0, .int .i64 a0_1, .int .i64 a0_2, .slice A0_3 l0_3.length c0_3]) (t := 28) (by go_simp; done) ?_; intro gbz0 hg w36 hbox hb; replace HB := mk (below_step HB.out hb); have BKz0 := mk (hbox); clear hb hbox hg) | ((with_reducible refine gate_dst (N := 3) rfl ?_); refine box_event (by rfl) (N := 3) (by rfl) (cs := #[.int .i64 a1_0, .int .i64 a1_1, .int .i64 a1_2, .slice A1_3 l1_3.length c1_3]) (t := 28) (by go_simp; done) ?_; intro gbz1 hg w37 hbox hb; replace BKz0 := mk (blk_below BKz0.out hb); replace HB := mk (below_step HB.out hb); have BKz1 := mk (hbox); clear hb hbox hg; obtain ⟨hcz39_0, hcz39_1, hcz39_2, -⟩ := c4 BKz0.out; have hcz39_3 : w37.cell? ⟨gbz0, 3, none⟩ = some (.slice A0_3 l0_3.length c0_3) := (blk_cell BKz0.out 3).trans rfl) | ((with_reducible refine gate_callee (f := 60) rfl ?_); refine goesL_ (some 6) rfl rfl Try.func60 (by kernel_rfl) rfl #[.agg #[.int .i64 a0_0, .int .i64 a0_1, .int .i64 a0_2, .slice A0_3 l0_3.length c0_3]] rfl (by (try simp only [bitvec_to_nat]); rfl) ?_; (with_reducible refine (spec_validImage.calls k a0_0 a0_1 a0_2 _ _ l0_3 true _ ?side1 ?side2 A3.out).mono ?_); (case side1 => repeat (exact (Kd.C_below HR0_3.out HB.out))); (case side2 => exact HC0_3.out); rintro e w40 ⟨rfl, hb⟩; refine ⟨_, rfl, ?_⟩; replace BKz0 := mk (blk_below BKz0.out hb); replace BKz1 := mk (blk_below BKz1.out hb); replace HB := mk (below_step HB.out hb); (try clear hb); obtain ⟨hcz41_0, hcz41_1, hcz41_2, -⟩ := c4 BKz1.out; have hcz41_3 : w40.cell? ⟨gbz1, 3, none⟩ = some (.slice A1_3 l1_3.length c1_3) := (blk_cell BKz1.out 3).trans rfl) | (go_at_call 60; (with_reducible refine (spec_validImage.calls k a1_0 a1_1 a1_2 _ _ l1_3 false _ ?side1 ?side2 A5.out).mono ?_); (case side1 => repeat (exact (Kd.C_below HR1_3.out HB.out))); (case side2 => exact HC1_3.out); rintro e w42 ⟨rfl, hb⟩; have n2_ := mk (below_step HB.out hb); clear BKz0; clear BKz1; clear HB; have HB := n2_; (try clear hb)))
  go_ret
  exact ⟨by rfl, by exact HB.out⟩
 replace c4 := Bool.eq_false_iff.mpr c4
 subst c4
 have H1 : (some false) = some r := by rw [if_neg (show ¬ (false = true) by decide)] at H; exact H
 clear H
 have H := H1
 clear H1
 obtain rfl := Option.some.inj H
 go_enter Try.func45, Try.ntmps45
 go_wp2_with (first | ((with_reducible refine gate_dst (N := 2) rfl ?_); refine box_event (by rfl) (N := 2) (by rfl) (cs := #[.int .i64 a0_0, .int .i64 a0_1, .int .i64 a0_2, .slice A0_3 l0_3.length c0_3]) (t := 28) (by go_simp; done) ?_; intro gbz0 hg w43 hbox hb; replace HB := mk (below_step HB.out hb); have BKz0 := mk (hbox); clear hb hbox hg) | ((with_reducible refine gate_dst (N := 3) rfl ?_); refine box_event (by rfl) (N := 3) (by rfl) (cs := #[.int .i64 a1_0, .int .i64 a1_1, .int .i64 a1_2, .slice A1_3 l1_3.length c1_3]) (t := 28) (by go_simp; done) ?_; intro gbz1 hg w44 hbox hb; replace BKz0 := mk (blk_below BKz0.out hb); replace HB := mk (below_step HB.out hb); have BKz1 := mk (hbox); clear hb hbox hg; obtain ⟨hcz46_0, hcz46_1, hcz46_2, -⟩ := c4 BKz0.out; have hcz46_3 : w44.cell? ⟨gbz0, 3, none⟩ = some (.slice A0_3 l0_3.length c0_3) := (blk_cell BKz0.out 3).trans rfl) | ((with_reducible refine gate_callee (f := 60) rfl ?_); refine goesL_ (some 6) rfl rfl Try.func60 (by kernel_rfl) rfl #[.agg #[.int .i64 a0_0, .int .i64 a0_1, .int .i64 a0_2, .slice A0_3 l0_3.length c0_3]] rfl (by (try simp only [bitvec_to_nat]); rfl) ?_; (with_reducible refine (spec_validImage.calls k a0_0 a0_1 a0_2 _ _ l0_3 false _ ?side1 ?side2 A3.out).mono ?_); (case side1 => repeat (exact (Kd.C_below HR0_3.out HB.out))); (case side2 => exact HC0_3.out); rintro e w47 ⟨rfl, hb⟩; refine ⟨_, rfl, ?_⟩; have n2_ := mk (below_step HB.out hb); clear BKz0; clear BKz1; clear HB; have HB := n2_; (try clear hb)))
 go_ret
 exact ⟨by rfl, by exact HB.out⟩


def spec_boundsOf.l0 : Nat → List S47 → Int → Int → Int → Option (Int × Int × Int × Int)
 | 0, _, _, _, _ => none
 | k + 1, x0, x3, x4, x5 => if x5 < (x0.length : Int) then (if 0 ≤ x5 then (spec_boundsOf.l0 k x0 (mn x3 ((rd_T47 x0 x5).f1)) (mx x4 ((rd_T47 x0 x5).f2)) (wrap64 (x5 + 1))) else none) else (if 0 < (x0.length : Int) then (if 0 ≤ (wrap64 ((x0.length : Int) - 1)) then (if (wrap64 ((x0.length : Int) - 1)) < (x0.length : Int) then (some (x3, (rd_T47 x0 0).f0, wrap64 (x4 - x3), wrap64 ((wrap64 (((rd_T47 x0 (wrap64 ((x0.length : Int) - 1))).f0) - ((rd_T47 x0 0).f0))) + 1))) else none) else none) else none)
def spec_boundsOf.f (k : Nat) (l0 : List S47) : Option (Int × Int × Int × Int) := if 0 < (l0.length : Int) then (spec_boundsOf.l0 k l0 ((rd_T47 l0 0).f1) ((rd_T47 l0 0).f2) 0) else (none)
def spec_boundsOf.T8 : Bool × List (List Nat × List Nat) := (true, [([], []), ([], []), ([1], [1]), ([2], [2]), ([3], [3]), ([], []), ([], []), ([5, 6], [5, 6]), ([], []), ([], []), ([9], [9]), ([10], [10]), ([8, 11], [8, 11]), ([12], [12]), ([13], [13]), ([], []), ([15], [15]), ([16], [16]), ([17], [17]), ([14, 18], [14, 18]), ([19], [19]), ([0, 4, 7, 20], [0, 4, 7, 20]), ([21, 0, 1, 2, 3, 4, 5, 6, 7, 8, 9, 10, 11, 12, 13, 14, 15, 16, 17, 18, 19, 20, 21], [21])])
def spec_boundsOf.B8 : List Nat := [0, 0, 2, 6, 14, 0, 0, 96, 0, 0, 512, 1536, 3840, 7936, 16128, 0, 32768, 98304, 229376, 524032, 1048320, 2097151, 4194303]
theorem spec_boundsOf.tab8 : rtab .any (opsOf Try.f77 8) = spec_boundsOf.T8 := by kernel_rfl
theorem spec_boundsOf.bits8 : waitsOk spec_boundsOf.T8.2 spec_boundsOf.B8 = true := by kernel_rfl
theorem spec_boundsOf.calls (k : Nat) (A0 : Option Addr) (c0 : Nat) (l0 : List S47) (r1 : Int) (r2 : Int) (r3 : Int) (r4 : Int) (w : World) (hr0 : Kd.C k47 w A0 l0.length l0) (hc0 : l0.length ≤ c0) (h : spec_boundsOf.f k l0 = some (r1, r2, r3, r4)) :
  Calls Try.prog 77 #[.slice A0 l0.length c0] w fun e w' => e = .returned (.agg #[.int .i64 r1, .int .i64 r2, .int .i64 r3, .int .i64 r4]) ∧ Below w.heap.size w w' := by
 have HR0 := Aside0.mk hr0
 clear hr0 hc0
 have HB := Aside0.mk (Below.refl w.heap.size w)
 have H : (if 0 < (l0.length : Int) then (spec_boundsOf.l0 k l0 ((rd_T47 l0 0).f1) ((rd_T47 l0 0).f2) 0) else none) = some (r1, r2, r3, r4) := h
 clear h
 by_cases c2 : 0 < (l0.length : Int)
 ·rw [if_pos c2] at H
  have c2b0 : decide (0 < (l0.length : Int)) = true := decide_eq_true c2
  have c2b1 : decide (0 < l0.length) = true := decide_eq_true (by omega)
  clear c2
  have H' := Aside0.mk H
  clear H
  go_enter Try.func77, Try.ntmps77
  go_wp2_with (first | ((with_reducible refine gate_dst (N := 2) rfl ?_); refine box_event (by rfl) (N := 2) (by rfl) (cs := #[.int .i64 0, .int .i64 0, .int .i64 0, .int .i64 0]) (t := 60) (by go_simp; done) ?_; intro gbz0 hg w3 hbox hb; have BKz0 := Aside0.mk (hbox); have GWz0 := Aside0.mk ((by rw [hg]; exact (below_size HB.out) : w.heap.size ≤ gbz0)); have GEz0 := Aside0.mk ((by rw [hg]; exact (below_size HB.out) : w.heap.size ≤ gbz0)); replace HB := Aside0.mk (below_step HB.out hb); clear hb hbox hg; have p78002 : 0 ≤ (0 : Int) := (by omega); have q78002 : 0 < (l0.length : Int) := of_decide_eq_true (by (with_reducible assumption)); obtain ⟨ad78002, e78002, hx78002_0, hx78002_1, hx78002_2⟩ := at_T47 HR0.out 0 p78002 q78002; cases e78002; have qi78002 : (0 < l0.length) = True := eq_true (by omega); (try rw [show (0 : Int).toNat = 0 from rfl] at hx78002_0); (try rw [show 0 * 3 = 0 from rfl] at hx78002_0); (try rw [Addr.add_zero'] at hx78002_0); (try rw [show (0 : Int).toNat = 0 from rfl] at hx78002_1); (try rw [show 0 * 3 = 0 from rfl] at hx78002_1); (try rw [Addr.add_zero'] at hx78002_1); (try rw [show (0 : Int).toNat = 0 from rfl] at hx78002_2); (try rw [show 0 * 3 = 0 from rfl] at hx78002_2); (try rw [Addr.add_zero'] at hx78002_2); replace hx78002_0 := bc HB.out hx78002_0; replace hx78002_1 := bc HB.out hx78002_1; replace hx78002_2 := bc HB.out hx78002_2; replace p78002 := eq_true p78002; replace q78002 := eq_true q78002; have p78003 : 0 ≤ (0 : Int) := (by omega); have q78003 : 0 < (l0.length : Int) := of_decide_eq_true (by (with_reducible assumption)); obtain ⟨ad78003, e78003, hx78003_0, hx78003_1, hx78003_2⟩ := at_T47 HR0.out 0 p78003 q78003; obtain rfl : ad78002 = ad78003 := (by injection e78003); have qi78003 : (0 < l0.length) = True := eq_true (by omega); (try rw [show (0 : Int).toNat = 0 from rfl] at hx78003_0); (try rw [show 0 * 3 = 0 from rfl] at hx78003_0); (try rw [Addr.add_zero'] at hx78003_0); (try rw [show (0 : Int).toNat = 0 from rfl] at hx78003_1); (try rw [show 0 * 3 = 0 from rfl] at hx78003_1); (try rw [Addr.add_zero'] at hx78003_1); (try rw [show (0 : Int).toNat = 0 from rfl] at hx78003_2); (try rw [show 0 * 3 = 0 from rfl] at hx78003_2); (try rw [Addr.add_zero'] at hx78003_2); replace hx78003_0 := bc HB.out hx78003_0; replace hx78003_1 := bc HB.out hx78003_1; replace hx78003_2 := bc HB.out hx78003_2; replace p78003 := eq_true p78003; replace q78003 := eq_true q78003))
  go_loopg [3, 4, 5] k (fun kq v3 v4 v5 w' => ∃ (x3_1 : Int) (x4_1 : Int) (x5_1 : Int), v3 = .int .i64 x3_1 ∧ v4 = .int .i64 x4_1 ∧ v5 = .int .i64 x5_1 ∧ Aside0 (spec_boundsOf.l0 kq l0 x3_1 x4_1 x5_1 = some (r1, r2, r3, r4)) ∧ Aside0 (kq ≤ k) ∧ Aside0 (w'.heap[gbz0]? = some (.cells #[.int .i64 0, .int .i64 0, .int .i64 0, .int .i64 0] 60 (0, 0))) ∧ Aside0 (Below w.heap.size w w'))
  case atStart => exact ⟨((rd_T47 l0 0).f1), ((rd_T47 l0 0).f2), (0), (by rfl), (by rfl), (by rfl), H', ⟨Nat.le_refl _⟩, BKz0, HB⟩
  case round =>
   clear H'
   obtain ⟨x3_1, x4_1, x5_1, rfl, rfl, rfl, HA, HK1, BKz0, HB⟩ := hrel
   cases gk with
   | zero => exact absurd HA.out (by simp [spec_boundsOf.l0])
   | succ k1 =>
    have H := HA.out
    clear HA
    simp only [spec_boundsOf.l0] at H
    by_cases c4 : x5_1 < (l0.length : Int)
    ·rw [if_pos c4] at H
     have c4b0 : decide (x5_1 < (l0.length : Int)) = true := decide_eq_true c4
     clear c4
     by_cases c5 : 0 ≤ x5_1
     ·rw [if_pos c5] at H
      have c5b0 : decide (0 ≤ x5_1) = true := decide_eq_true c5
      clear c5
      obtain ⟨ji6, hji6⟩ : ∃ j_ : Int, (mn x3_1 ((rd_T47 l0 x5_1).f1)) = j_ := ⟨_, rfl⟩
      replace H : (spec_boundsOf.l0 k1 l0 ji6 (mx x4_1 ((rd_T47 l0 x5_1).f2)) (wrap64 (x5_1 + 1))) = some (r1, r2, r3, r4) := by (rw [hji6] at H; exact H)
      have hji6_ : (if ((rd_T47 l0 x5_1).f1) < x3_1 then ((rd_T47 l0 x5_1).f1) else x3_1) = ji6 := hji6
      obtain ⟨ji7, hji7⟩ : ∃ j_ : Int, (mx x4_1 ((rd_T47 l0 x5_1).f2)) = j_ := ⟨_, rfl⟩
      replace H : (spec_boundsOf.l0 k1 l0 ji6 ji7 (wrap64 (x5_1 + 1))) = some (r1, r2, r3, r4) := by (rw [hji7] at H; exact H)
      have hji7_ : (if x4_1 < ((rd_T47 l0 x5_1).f2) then ((rd_T47 l0 x5_1).f2) else x4_1) = ji7 := hji7
      have H' := Aside0.mk H
      clear H
      have p78004 : 0 ≤ (x5_1 : Int) := of_decide_eq_true (by (with_reducible assumption))
      have q78004 : x5_1 < (l0.length : Int) := of_decide_eq_true (by (with_reducible assumption))
      obtain ⟨ad78004, e78004, hx78004_0, hx78004_1, hx78004_2⟩ := at_T47 HR0.out x5_1 p78004 q78004
      obtain rfl : ad78002 = ad78004 := (by injection e78004)
      replace hx78004_0 := bc HB.out hx78004_0
      replace hx78004_1 := bc HB.out hx78004_1
      replace hx78004_2 := bc HB.out hx78004_2
      replace p78004 := eq_true p78004
      replace q78004 := eq_true q78004
      have p78005 : 0 ≤ (x5_1 : Int) := of_decide_eq_true (by (with_reducible assumption))
      have q78005 : x5_1 < (l0.length : Int) := of_decide_eq_true (by (with_reducible assumption))
      obtain ⟨ad78005, e78005, hx78005_0, hx78005_1, hx78005_2⟩ := at_T47 HR0.out x5_1 p78005 q78005
      obtain rfl : ad78002 = ad78005 := (by injection e78005)
      replace hx78005_0 := bc HB.out hx78005_0
      replace hx78005_1 := bc HB.out hx78005_1
      replace hx78005_2 := bc HB.out hx78005_2
      replace p78005 := eq_true p78005
      replace q78005 := eq_true q78005
      go_wp2
      go_roundg k1
      case measure => have := HK1.out; omega
      case rel => exact ⟨(ji6), (ji7), (wrap64 (x5_1 + 1)), (by rfl), (by rfl), (by rfl), H', ⟨by have := HK1.out; omega⟩, BKz0, HB⟩
     rw [if_neg c5] at H
     exact absurd H (by simp)
    rw [if_neg c4] at H
    have c4b0 : decide (x5_1 < (l0.length : Int)) = false := decide_eq_false c4
    clear c4
    by_cases c8 : 0 < (l0.length : Int)
    ·rw [if_pos c8] at H
     have c8b0 : decide (0 < (l0.length : Int)) = true := decide_eq_true c8
     clear c8
     obtain ⟨ji9, hji9⟩ : ∃ j_ : Int, (wrap64 ((l0.length : Int) - 1)) = j_ := ⟨_, rfl⟩
     replace H : (if 0 ≤ ji9 then (if ji9 < (l0.length : Int) then (some (x3_1, (rd_T47 l0 0).f0, wrap64 (x4_1 - x3_1), wrap64 ((wrap64 (((rd_T47 l0 ji9).f0) - ((rd_T47 l0 0).f0))) + 1))) else none) else none) = some (r1, r2, r3, r4) := by (rw [hji9] at H; exact H)
     have hji9w : (IntKind.i64.wrap ((l0.length : Int) - 1)) = ji9 := (i64_w _).trans hji9
     by_cases c10 : 0 ≤ (ji9)
     ·rw [if_pos c10] at H
      have c10b0 : decide (0 ≤ ji9) = true := decide_eq_true c10
      clear c10
      by_cases c11 : ji9 < (l0.length : Int)
      ·rw [if_pos c11] at H
       have c11b0 : decide (ji9 < (l0.length : Int)) = true := decide_eq_true c11
       clear c11
       simp only [Option.some.injEq, Prod.mk.injEq] at H
       obtain ⟨rfl, rfl, rfl, rfl⟩ := H
       try go_wp2
       replace BKz0 := Aside0.mk (blk_drew BKz0.out)
       replace HB := Aside0.mk (below_drew1 HB.out)
       have p78006 : 0 ≤ (0 : Int) := (by omega)
       have q78006 : 0 < (l0.length : Int) := of_decide_eq_true (by (with_reducible assumption))
       obtain ⟨ad78006, e78006, hx78006_0, hx78006_1, hx78006_2⟩ := at_T47 HR0.out 0 p78006 q78006
       have hw78006_2 := hx78006_2
       (try rw [show (0 : Int).toNat = 0 from rfl] at hw78006_2)
       (try rw [show 0 * 3 = 0 from rfl] at hw78006_2)
       (try rw [Addr.add_zero'] at hw78006_2)
       have hw78006_1 := hx78006_1
       (try rw [show (0 : Int).toNat = 0 from rfl] at hw78006_1)
       (try rw [show 0 * 3 = 0 from rfl] at hw78006_1)
       (try rw [Addr.add_zero'] at hw78006_1)
       have hw78006_0 := hx78006_0
       (try rw [show (0 : Int).toNat = 0 from rfl] at hw78006_0)
       (try rw [show 0 * 3 = 0 from rfl] at hw78006_0)
       (try rw [Addr.add_zero'] at hw78006_0)
       obtain rfl : ad78002 = ad78006 := (by injection e78006)
       have qi78006 : (0 < l0.length) = True := eq_true (by omega)
       (try rw [show (0 : Int).toNat = 0 from rfl] at hx78006_0)
       (try rw [show 0 * 3 = 0 from rfl] at hx78006_0)
       (try rw [Addr.add_zero'] at hx78006_0)
       (try rw [show (0 : Int).toNat = 0 from rfl] at hx78006_1)
       (try rw [show 0 * 3 = 0 from rfl] at hx78006_1)
       (try rw [Addr.add_zero'] at hx78006_1)
       (try rw [show (0 : Int).toNat = 0 from rfl] at hx78006_2)
       (try rw [show 0 * 3 = 0 from rfl] at hx78006_2)
       (try rw [Addr.add_zero'] at hx78006_2)
       replace hx78006_0 := bc HB.out hx78006_0
       replace hx78006_1 := bc HB.out hx78006_1
       replace hx78006_2 := bc HB.out hx78006_2
       replace p78006 := eq_true p78006
       replace q78006 := eq_true q78006
       have p78007 : 0 ≤ (ji9 : Int) := of_decide_eq_true (by (with_reducible assumption))
       have q78007 : ji9 < (l0.length : Int) := of_decide_eq_true (by (with_reducible assumption))
       obtain ⟨ad78007, e78007, hx78007_0, hx78007_1, hx78007_2⟩ := at_T47 HR0.out ji9 p78007 q78007
       have hw78007_2 := hx78007_2
       have hw78007_1 := hx78007_1
       have hw78007_0 := hx78007_0
       obtain rfl : ad78002 = ad78007 := (by injection e78007)
       replace hx78007_0 := bc HB.out hx78007_0
       replace hx78007_1 := bc HB.out hx78007_1
       replace hx78007_2 := bc HB.out hx78007_2
       replace p78007 := eq_true p78007
       replace q78007 := eq_true q78007
       have p78008 : 0 ≤ (0 : Int) := (by omega)
       have q78008 : 0 < (l0.length : Int) := of_decide_eq_true (by (with_reducible assumption))
       obtain ⟨ad78008, e78008, hx78008_0, hx78008_1, hx78008_2⟩ := at_T47 HR0.out 0 p78008 q78008
       have hw78008_2 := hx78008_2
       (try rw [show (0 : Int).toNat = 0 from rfl] at hw78008_2)
       (try rw [show 0 * 3 = 0 from rfl] at hw78008_2)
       (try rw [Addr.add_zero'] at hw78008_2)
       have hw78008_1 := hx78008_1
       (try rw [show (0 : Int).toNat = 0 from rfl] at hw78008_1)
       (try rw [show 0 * 3 = 0 from rfl] at hw78008_1)
       (try rw [Addr.add_zero'] at hw78008_1)
       have hw78008_0 := hx78008_0
       (try rw [show (0 : Int).toNat = 0 from rfl] at hw78008_0)
       (try rw [show 0 * 3 = 0 from rfl] at hw78008_0)
       (try rw [Addr.add_zero'] at hw78008_0)
       obtain rfl : ad78002 = ad78008 := (by injection e78008)
       have qi78008 : (0 < l0.length) = True := eq_true (by omega)
       (try rw [show (0 : Int).toNat = 0 from rfl] at hx78008_0)
       (try rw [show 0 * 3 = 0 from rfl] at hx78008_0)
       (try rw [Addr.add_zero'] at hx78008_0)
       (try rw [show (0 : Int).toNat = 0 from rfl] at hx78008_1)
       (try rw [show 0 * 3 = 0 from rfl] at hx78008_1)
       (try rw [Addr.add_zero'] at hx78008_1)
       (try rw [show (0 : Int).toNat = 0 from rfl] at hx78008_2)
       (try rw [show 0 * 3 = 0 from rfl] at hx78008_2)
       (try rw [Addr.add_zero'] at hx78008_2)
       replace hx78008_0 := bc HB.out hx78008_0
       replace hx78008_1 := bc HB.out hx78008_1
       replace hx78008_2 := bc HB.out hx78008_2
       replace p78008 := eq_true p78008
       replace q78008 := eq_true q78008
       refine start_ (n := 23) (S := fun w' => w'.cell? ad78002 = some (.int .i64 ((rd_T47 l0 0).f0)) ∧ w'.cell? ⟨ad78002.block, ad78002.off + 1, none⟩ = some (.int .i64 ((rd_T47 l0 0).f1)) ∧ w'.cell? ⟨ad78002.block, ad78002.off + 2, none⟩ = some (.int .i64 ((rd_T47 l0 0).f2)) ∧ w'.cell? (ad78002.add ((ji9).toNat * 3)) = some (.int .i64 ((rd_T47 l0 ji9).f0)) ∧ w'.cell? ⟨(ad78002.add ((ji9).toNat * 3)).block, (ad78002.add ((ji9).toNat * 3)).off + 1, none⟩ = some (.int .i64 ((rd_T47 l0 ji9).f1)) ∧ w'.cell? ⟨(ad78002.add ((ji9).toNat * 3)).block, (ad78002.add ((ji9).toNat * 3)).off + 2, none⟩ = some (.int .i64 ((rd_T47 l0 ji9).f2)) ∧ w'.cell? ad78002 = some (.int .i64 ((rd_T47 l0 0).f0)) ∧ w'.cell? ⟨ad78002.block, ad78002.off + 1, none⟩ = some (.int .i64 ((rd_T47 l0 0).f1)) ∧ w'.cell? ⟨ad78002.block, ad78002.off + 2, none⟩ = some (.int .i64 ((rd_T47 l0 0).f2))) (ds := []) #[false, false, false, false, false, false, false, false, false, false, false, false, false, false, false, false, false, false, false, false, false, false, false] (by kernel_rfl) rfl rfl ⟨bc HB.out hw78006_0, bc HB.out hw78006_1, bc HB.out hw78006_2, bc HB.out hw78007_0, bc HB.out hw78007_1, bc HB.out hw78007_2, bc HB.out hw78008_0, bc HB.out hw78008_1, bc HB.out hw78008_2⟩ (fun hHeld => ?_); refine with_tabW spec_boundsOf.tab8 spec_boundsOf.bits8 (fun HT_ HW_ => ?_)
       generalize wr.drew = w12 at BKz0 HB hx78006_0 hx78006_1 hx78006_2 hx78007_0 hx78007_1 hx78007_2 hx78008_0 hx78008_1 hx78008_2 hHeld ⊢
       refine pu 0 34 ?_ ?_ rfl rfl (any_of HT_.out (by kernel_rfl)) (Or.inl ⟨by rfl, ?_⟩) ?_ ?_
       rotate_left 2
       ·intro w'
        go_simp
        with_reducible rfl
       ·simp only [seval]
        rfl
       refine pu 1 35 ?_ ?_ rfl rfl (any_of HT_.out (by kernel_rfl)) (Or.inl ⟨by rfl, ?_⟩) ?_ ?_
       rotate_left 2
       ·intro w'
        go_simp
        with_reducible rfl
       ·simp only [seval]
        rfl
       refine pu 2 36 ?_ ?_ rfl rfl (any_of HT_.out (by kernel_rfl)) (Or.inl ⟨by rfl, ?_⟩) ?_ ?_
       rotate_left 2
       ·intro w'
        go_simp
        with_reducible rfl
       ·simp only [seval]
        rfl
       refine pu 3 37 ?_ ?_ rfl rfl (any_of HT_.out (by kernel_rfl)) (Or.inl ⟨by rfl, ?_⟩) ?_ ?_
       rotate_left 2
       ·intro w'
        go_simp
        with_reducible rfl
       ·simp only [seval]
        rfl
       refine pu 5 39 ?_ ?_ rfl rfl (any_of HT_.out (by kernel_rfl)) (Or.inl ⟨by rfl, ?_⟩) ?_ ?_
       rotate_left 2
       ·intro w'
        go_simp
        with_reducible rfl
       ·simp only [seval]
        rfl
       refine pu 6 40 ?_ ?_ rfl rfl (any_of HT_.out (by kernel_rfl)) (Or.inl ⟨by rfl, ?_⟩) ?_ ?_
       rotate_left 2
       ·intro w'
        go_simp
        with_reducible rfl
       ·simp only [seval]
        rfl
       refine pu 7 41 ?_ ?_ rfl rfl (any_of HT_.out (by kernel_rfl)) (Or.inl ⟨by rfl, ?_⟩) ?_ ?_
       rotate_left 2
       ·intro w'
        go_simp
        with_reducible rfl
       ·simp only [seval]
        rfl
       refine pu 8 42 ?_ ?_ rfl rfl (any_of HT_.out (by kernel_rfl)) (Or.inl ⟨by rfl, ?_⟩) ?_ ?_
       rotate_left 2
       ·intro w'
        go_simp
        with_reducible rfl
       ·simp only [seval]
        rfl
       refine pu 9 43 ?_ ?_ rfl rfl (any_of HT_.out (by kernel_rfl)) (Or.inl ⟨by rfl, ?_⟩) ?_ ?_
       rotate_left 2
       ·intro w'
        go_simp
        with_reducible rfl
       ·simp only [seval]
        rfl
       refine pu 10 44 ?_ ?_ rfl rfl (any_of HT_.out (by kernel_rfl)) (Or.inl ⟨by rfl, ?_⟩) ?_ ?_
       rotate_left 2
       ·intro w'
        go_simp
        with_reducible rfl
       ·simp only [seval]
        rfl
       refine pu 11 45 ?_ ?_ rfl rfl (any_of HT_.out (by kernel_rfl)) (Or.inl ⟨by rfl, ?_⟩) ?_ ?_
       rotate_left 2
       ·intro w'
        go_simp
        with_reducible rfl
       ·simp only [seval]
        rfl
       refine pu 12 46 ?_ ?_ rfl rfl (any_of HT_.out (by kernel_rfl)) (Or.inl ⟨by rfl, ?_⟩) ?_ ?_
       rotate_left 2
       ·intro w'
        go_simp
        with_reducible rfl
       ·simp only [seval]
        rfl
       refine pu 13 47 ?_ ?_ rfl rfl (any_of HT_.out (by kernel_rfl)) (Or.inl ⟨by rfl, ?_⟩) ?_ ?_
       rotate_left 2
       ·intro w'
        go_simp
        with_reducible rfl
       ·simp only [seval]
        rfl
       refine pu 15 49 ?_ ?_ rfl rfl (any_of HT_.out (by kernel_rfl)) (Or.inl ⟨by rfl, ?_⟩) ?_ ?_
       rotate_left 2
       ·intro w'
        go_simp
        with_reducible rfl
       ·simp only [seval]
        rfl
       refine pu 16 50 ?_ ?_ rfl rfl (any_of HT_.out (by kernel_rfl)) (Or.inl ⟨by rfl, ?_⟩) ?_ ?_
       rotate_left 2
       ·intro w'
        go_simp
        with_reducible rfl
       ·simp only [seval]
        rfl
       refine pu 17 51 ?_ ?_ rfl rfl (any_of HT_.out (by kernel_rfl)) (Or.inl ⟨by rfl, ?_⟩) ?_ ?_
       rotate_left 2
       ·intro w'
        go_simp
        with_reducible rfl
       ·simp only [seval]
        rfl
       refine tk 4 38 ?_ ?_ rfl rfl (take_ofW HT_.out HW_.out (by kernel_rfl)) (Or.inl ⟨by rfl, ?_⟩) hHeld ?_ ?_
       rotate_left 2
       ·rintro w' ⟨s0, s1, s2, s3, s4, s5, s6, s7, s8⟩
        go_simp
        with_reducible rfl
       ·simp only [seval]
        rfl
       refine tk 14 48 ?_ ?_ rfl rfl (take_ofW HT_.out HW_.out (by kernel_rfl)) (Or.inl ⟨by rfl, ?_⟩) hHeld ?_ ?_
       rotate_left 2
       ·rintro w' ⟨s0, s1, s2, s3, s4, s5, s6, s7, s8⟩
        go_simp
        with_reducible rfl
       ·simp only [seval]
        rfl
       refine tk 18 52 ?_ ?_ rfl rfl (take_ofW HT_.out HW_.out (by kernel_rfl)) (Or.inl ⟨by rfl, ?_⟩) hHeld ?_ ?_
       rotate_left 2
       ·rintro w' ⟨s0, s1, s2, s3, s4, s5, s6, s7, s8⟩
        go_simp
        with_reducible rfl
       ·simp only [seval]
        rfl
       refine pu 19 53 ?_ ?_ rfl rfl (any_of HT_.out (by kernel_rfl)) (Or.inl ⟨by rfl, ?_⟩) ?_ ?_
       rotate_left 2
       ·intro w'
        go_simp
        with_reducible rfl
       ·simp only [seval]
        rfl
       refine pu 20 54 ?_ ?_ rfl rfl (any_of HT_.out (by kernel_rfl)) (Or.inl ⟨by rfl, ?_⟩) ?_ ?_
       rotate_left 2
       ·intro w'
        go_simp
        with_reducible rfl
       ·simp only [seval]
        rfl
       refine pu 21 55 ?_ ?_ rfl rfl (any_of HT_.out (by kernel_rfl)) (Or.inl ⟨by rfl, ?_⟩) ?_ ?_
       rotate_left 2
       ·intro w'
        go_simp
        with_reducible rfl
       ·simp only [seval]
        rfl
       refine one_ (i := 22) (N := none) #[true, true, true, true, true, true, true, true, true, true, true, true, true, true, true, true, true, true, true, true, true, true, true] rfl rfl (one_of HT_.out (by kernel_rfl)) (by decide) (fun K hK => ?_)
       obtain ⟨hs13, hs14, hs15, hs16, hfs13, hfs14, hfs15, hfs16⟩ := c4 BKz0.out
       refine skip_ (w1 := ?_) (by rfl) rfl ?_ ?_
       rotate_left
       ·go_simp
        rfl
       refine hK.out _ _ ⟨((cell_far (p := ⟨gbz0, _, none⟩) (by exact Nat.ne_of_lt (Nat.lt_of_lt_of_le (by have := World.block_lt_of_cell? _ _ hw78006_0; exact this) GWz0.out)) _).trans (((cell_far (p := ⟨gbz0, _, none⟩) (by exact Nat.ne_of_lt (Nat.lt_of_lt_of_le (by have := World.block_lt_of_cell? _ _ hw78006_0; exact this) GWz0.out)) _).trans (((cell_far (p := ⟨gbz0, _, none⟩) (by exact Nat.ne_of_lt (Nat.lt_of_lt_of_le (by have := World.block_lt_of_cell? _ _ hw78006_0; exact this) GWz0.out)) _).trans (((cell_far (p := ⟨gbz0, _, none⟩) (by exact Nat.ne_of_lt (Nat.lt_of_lt_of_le (by have := World.block_lt_of_cell? _ _ hw78006_0; exact this) GWz0.out)) _).trans hHeld.1))))))), ((cell_far (p := ⟨gbz0, _, none⟩) (by exact Nat.ne_of_lt (Nat.lt_of_lt_of_le (by have := World.block_lt_of_cell? _ _ hw78006_1; exact this) GWz0.out)) _).trans (((cell_far (p := ⟨gbz0, _, none⟩) (by exact Nat.ne_of_lt (Nat.lt_of_lt_of_le (by have := World.block_lt_of_cell? _ _ hw78006_1; exact this) GWz0.out)) _).trans (((cell_far (p := ⟨gbz0, _, none⟩) (by exact Nat.ne_of_lt (Nat.lt_of_lt_of_le (by have := World.block_lt_of_cell? _ _ hw78006_1; exact this) GWz0.out)) _).trans (((cell_far (p := ⟨gbz0, _, none⟩) (by exact Nat.ne_of_lt (Nat.lt_of_lt_of_le (by have := World.block_lt_of_cell? _ _ hw78006_1; exact this) GWz0.out)) _).trans hHeld.2.1))))))), ((cell_far (p := ⟨gbz0, _, none⟩) (by exact Nat.ne_of_lt (Nat.lt_of_lt_of_le (by have := World.block_lt_of_cell? _ _ hw78006_2; exact this) GWz0.out)) _).trans (((cell_far (p := ⟨gbz0, _, none⟩) (by exact Nat.ne_of_lt (Nat.lt_of_lt_of_le (by have := World.block_lt_of_cell? _ _ hw78006_2; exact this) GWz0.out)) _).trans (((cell_far (p := ⟨gbz0, _, none⟩) (by exact Nat.ne_of_lt (Nat.lt_of_lt_of_le (by have := World.block_lt_of_cell? _ _ hw78006_2; exact this) GWz0.out)) _).trans (((cell_far (p := ⟨gbz0, _, none⟩) (by exact Nat.ne_of_lt (Nat.lt_of_lt_of_le (by have := World.block_lt_of_cell? _ _ hw78006_2; exact this) GWz0.out)) _).trans hHeld.2.2.1))))))), ((cell_far (p := ⟨gbz0, _, none⟩) (by exact Nat.ne_of_lt (Nat.lt_of_lt_of_le (by have := World.block_lt_of_cell? _ _ hw78007_0; exact this) GWz0.out)) _).trans (((cell_far (p := ⟨gbz0, _, none⟩) (by exact Nat.ne_of_lt (Nat.lt_of_lt_of_le (by have := World.block_lt_of_cell? _ _ hw78007_0; exact this) GWz0.out)) _).trans (((cell_far (p := ⟨gbz0, _, none⟩) (by exact Nat.ne_of_lt (Nat.lt_of_lt_of_le (by have := World.block_lt_of_cell? _ _ hw78007_0; exact this) GWz0.out)) _).trans (((cell_far (p := ⟨gbz0, _, none⟩) (by exact Nat.ne_of_lt (Nat.lt_of_lt_of_le (by have := World.block_lt_of_cell? _ _ hw78007_0; exact this) GWz0.out)) _).trans hHeld.2.2.2.1))))))), ((cell_far (p := ⟨gbz0, _, none⟩) (by exact Nat.ne_of_lt (Nat.lt_of_lt_of_le (by have := World.block_lt_of_cell? _ _ hw78007_1; exact this) GWz0.out)) _).trans (((cell_far (p := ⟨gbz0, _, none⟩) (by exact Nat.ne_of_lt (Nat.lt_of_lt_of_le (by have := World.block_lt_of_cell? _ _ hw78007_1; exact this) GWz0.out)) _).trans (((cell_far (p := ⟨gbz0, _, none⟩) (by exact Nat.ne_of_lt (Nat.lt_of_lt_of_le (by have := World.block_lt_of_cell? _ _ hw78007_1; exact this) GWz0.out)) _).trans (((cell_far (p := ⟨gbz0, _, none⟩) (by exact Nat.ne_of_lt (Nat.lt_of_lt_of_le (by have := World.block_lt_of_cell? _ _ hw78007_1; exact this) GWz0.out)) _).trans hHeld.2.2.2.2.1))))))), ((cell_far (p := ⟨gbz0, _, none⟩) (by exact Nat.ne_of_lt (Nat.lt_of_lt_of_le (by have := World.block_lt_of_cell? _ _ hw78007_2; exact this) GWz0.out)) _).trans (((cell_far (p := ⟨gbz0, _, none⟩) (by exact Nat.ne_of_lt (Nat.lt_of_lt_of_le (by have := World.block_lt_of_cell? _ _ hw78007_2; exact this) GWz0.out)) _).trans (((cell_far (p := ⟨gbz0, _, none⟩) (by exact Nat.ne_of_lt (Nat.lt_of_lt_of_le (by have := World.block_lt_of_cell? _ _ hw78007_2; exact this) GWz0.out)) _).trans (((cell_far (p := ⟨gbz0, _, none⟩) (by exact Nat.ne_of_lt (Nat.lt_of_lt_of_le (by have := World.block_lt_of_cell? _ _ hw78007_2; exact this) GWz0.out)) _).trans hHeld.2.2.2.2.2.1))))))), ((cell_far (p := ⟨gbz0, _, none⟩) (by exact Nat.ne_of_lt (Nat.lt_of_lt_of_le (by have := World.block_lt_of_cell? _ _ hw78008_0; exact this) GWz0.out)) _).trans (((cell_far (p := ⟨gbz0, _, none⟩) (by exact Nat.ne_of_lt (Nat.lt_of_lt_of_le (by have := World.block_lt_of_cell? _ _ hw78008_0; exact this) GWz0.out)) _).trans (((cell_far (p := ⟨gbz0, _, none⟩) (by exact Nat.ne_of_lt (Nat.lt_of_lt_of_le (by have := World.block_lt_of_cell? _ _ hw78008_0; exact this) GWz0.out)) _).trans (((cell_far (p := ⟨gbz0, _, none⟩) (by exact Nat.ne_of_lt (Nat.lt_of_lt_of_le (by have := World.block_lt_of_cell? _ _ hw78008_0; exact this) GWz0.out)) _).trans hHeld.2.2.2.2.2.2.1))))))), ((cell_far (p := ⟨gbz0, _, none⟩) (by exact Nat.ne_of_lt (Nat.lt_of_lt_of_le (by have := World.block_lt_of_cell? _ _ hw78008_1; exact this) GWz0.out)) _).trans (((cell_far (p := ⟨gbz0, _, none⟩) (by exact Nat.ne_of_lt (Nat.lt_of_lt_of_le (by have := World.block_lt_of_cell? _ _ hw78008_1; exact this) GWz0.out)) _).trans (((cell_far (p := ⟨gbz0, _, none⟩) (by exact Nat.ne_of_lt (Nat.lt_of_lt_of_le (by have := World.block_lt_of_cell? _ _ hw78008_1; exact this) GWz0.out)) _).trans (((cell_far (p := ⟨gbz0, _, none⟩) (by exact Nat.ne_of_lt (Nat.lt_of_lt_of_le (by have := World.block_lt_of_cell? _ _ hw78008_1; exact this) GWz0.out)) _).trans hHeld.2.2.2.2.2.2.2.1))))))), ((cell_far (p := ⟨gbz0, _, none⟩) (by exact Nat.ne_of_lt (Nat.lt_of_lt_of_le (by have := World.block_lt_of_cell? _ _ hw78008_2; exact this) GWz0.out)) _).trans (((cell_far (p := ⟨gbz0, _, none⟩) (by exact Nat.ne_of_lt (Nat.lt_of_lt_of_le (by have := World.block_lt_of_cell? _ _ hw78008_2; exact this) GWz0.out)) _).trans (((cell_far (p := ⟨gbz0, _, none⟩) (by exact Nat.ne_of_lt (Nat.lt_of_lt_of_le (by have := World.block_lt_of_cell? _ _ hw78008_2; exact this) GWz0.out)) _).trans (((cell_far (p := ⟨gbz0, _, none⟩) (by exact Nat.ne_of_lt (Nat.lt_of_lt_of_le (by have := World.block_lt_of_cell? _ _ hw78008_2; exact this) GWz0.out)) _).trans hHeld.2.2.2.2.2.2.2.2)))))))⟩ (fun hHeld => ?_)
       clear hK K
       refine done_ (done_of HT_.out (by kernel_rfl)) ?_
       try go_wp2
       refine bodyPost_ret (results_cell_row rfl _ _ gbz0 60 #[.int .i64 x3_1, .int .i64 ((rd_T47 l0 0).f0), .int .i64 (wrap64 (x4_1 - x3_1)), .int .i64 (wrap64 ((wrap64 (((rd_T47 l0 ji9).f0) - ((rd_T47 l0 0).f0))) + 1))] (0, 0) _ rfl (by refine p4 (.int .i64 0) (.int .i64 0) (.int .i64 0) (.int .i64 0) ?_; exact BKz0.out) Try.underlying60 rfl (by kernel_rfl)) rfl ?_
       exact ⟨by rfl, by repeat (with_reducible first | exact HB.out | refine below_set ?_ GEz0.out)⟩
      rw [if_neg c11] at H
      exact absurd H (by simp)
     rw [if_neg c10] at H
     exact absurd H (by simp)
    rw [if_neg c8] at H
    exact absurd H (by simp)
 rw [if_neg c2] at H
 exact absurd H (by simp)


mutual
def spec_gridOf.l0 : Nat → List S47 → List Bool → Int → Option (List Bool)
 | 0, _, _, _ => none
 | k + 1, x0, x3, x4 => if x4 < (x0.length : Int) then (if 0 ≤ x4 then (spec_gridOf.l1 k x0 x3 x4 ((rd_T47 x0 x4).f1)) else none) else (some x3)
def spec_gridOf.l1 : Nat → List S47 → List Bool → Int → Int → Option (List Bool)
 | 0, _, _, _, _ => none
 | k + 1, x0, x3, x4, x5 => if 0 ≤ x4 then (if x4 < (x0.length : Int) then (if x5 < ((rd_T47 x0 x4).f2) then (if 0 ≤ (wrap64 ((wrap64 (((rd_T47 x0 x4).f0) * 16)) + x5)) then (if (wrap64 ((wrap64 (((rd_T47 x0 x4).f0) * 16)) + x5)) < (x3.length : Int) then (spec_gridOf.l1 k x0 (x3.set ((wrap64 ((wrap64 (((rd_T47 x0 x4).f0) * 16)) + x5)) : Int).toNat true) x4 (wrap64 (x5 + 1))) else none) else none) else (spec_gridOf.l0 k x0 x3 (wrap64 (x4 + 1)))) else none) else (none)
end
def spec_gridOf.f (k : Nat) (l0 : List S47) : Option (List Bool) := if 256 ≤ 281474976710656 then (spec_gridOf.l0 k l0 (List.replicate 256 false) 0) else (none)
theorem spec_gridOf.calls (k : Nat) (A0 : Option Addr) (c0 : Nat) (l0 : List S47) (r : List Bool) (w : World) (hr0 : Kd.C k47 w A0 l0.length l0) (hc0 : l0.length ≤ c0) (h : spec_gridOf.f k l0 = some r) :
  Calls Try.prog 104 #[.slice A0 l0.length c0] w fun e w' => ∃ v0_ : Value, e = .returned v0_ ∧ Kd.R Kd.bool 4 w' w.heap.size (fun _ => True) v0_ r ∧ Below w.heap.size w w' := by
 have HR0 := mk hr0
 clear hr0 hc0
 have HB := mk (Below.refl w.heap.size w)
 have H : (if 256 ≤ 281474976710656 then (spec_gridOf.l0 k l0 (List.replicate 256 false) 0) else none) = some r := h
 clear h
 by_cases c2 : 256 ≤ 281474976710656
 ·rw [if_pos c2] at H
  have c2b0 := eq_true c2
  have c2b1 : decide (256 ≤ 281474976710656) = true := decide_eq_true c2
  clear c2
  obtain ⟨yz1, hyz0⟩ : ∃ y_ : List Bool, y_ = (List.replicate 256 false) := ⟨_, rfl⟩
  replace H : (spec_gridOf.l0 k l0 yz1 0) = some r := by (rw [hyz0]; with_reducible exact H)
  have Nyz0 := mk hyz0
  clear hyz0
  have H' := mk H
  clear H
  go_enter Try.func104, Try.ntmps104
  go_wp2_with (first | ((with_reducible refine gate_dst (N := 6) rfl ?_); refine Kd.R_make Kd.bool _ 4 rfl (N := 6) rfl 81 _ _ rfl 256 rfl rfl Try.underlying81 (.bool false) 1 info4 rfl (by decide) (by omega) false (ok := fun _ => True) (okp := fun _ => True) rfl (fun _ hk => hk) trivial (by omega) (by omega) (Below.refl _ _) (Nat.le_refl _) ?_; intro vz0 w3 ho4 hb hg_ hnew_; clear hg_ hnew_; (simp only [Int.reduceToNat] at ho4; rw [← Nyz0.out] at ho4); have HOz0 := mk (Kd.R_lower ho4 (below_size HB.out)); replace HB := mk (below_step HB.out hb); clear hb ho4))
  go_loopg [4] k (fun kq v4 w' => ∃ (x3_1 : List Bool) (x4_1 : Int), v4 = .int .i64 x4_1 ∧ Aside0 (spec_gridOf.l0 kq l0 x3_1 x4_1 = some r) ∧ Aside0 (kq ≤ k) ∧ Aside0 (Kd.R Kd.bool 4 w' w.heap.size (fun _ => True) vz0 x3_1) ∧ Aside0 (Below w.heap.size w w'))
  case atStart => exact ⟨(yz1), (0), (by rfl), H', ⟨Nat.le_refl _⟩, HOz0, HB⟩
  case round =>
   clear H'
   obtain ⟨x3_1, x4_1, rfl, HA, HK1, HO_3, HB⟩ := hrel
   cases gk with
   | zero => exact absurd HA.out (by simp [spec_gridOf.l0])
   | succ k1 =>
    have H := HA.out
    clear HA
    simp only [spec_gridOf.l0] at H
    by_cases c5 : x4_1 < (l0.length : Int)
    ·rw [if_pos c5] at H
     have c5b0 : decide (x4_1 < (l0.length : Int)) = true := decide_eq_true c5
     clear c5
     by_cases c6 : 0 ≤ x4_1
     ·rw [if_pos c6] at H
      have c6b0 : decide (0 ≤ x4_1) = true := decide_eq_true c6
      clear c6
      have H' := mk H
      clear H
      have p105004 : 0 ≤ (x4_1 : Int) := of_decide_eq_true (by (with_reducible assumption))
      have q105004 : x4_1 < (l0.length : Int) := of_decide_eq_true (by (with_reducible assumption))
      obtain ⟨ad105004, e105004, hx105004_0, hx105004_1, hx105004_2⟩ := at_T47 HR0.out x4_1 p105004 q105004
      cases e105004
      replace hx105004_0 := bc HB.out hx105004_0
      replace hx105004_1 := bc HB.out hx105004_1
      replace hx105004_2 := bc HB.out hx105004_2
      replace p105004 := eq_true p105004
      replace q105004 := eq_true q105004
      go_wp2
      go_loopg [5] k1 (fun kq v5 w' => ∃ (x3_2 : List Bool) (x5_2 : Int), v5 = .int .i64 x5_2 ∧ Aside0 (spec_gridOf.l1 kq l0 x3_2 x4_1 x5_2 = some r) ∧ Aside0 (kq ≤ k1) ∧ Aside0 (Kd.R Kd.bool 4 w' w.heap.size (fun _ => True) vz0 x3_2) ∧ Aside0 (Below w.heap.size w w'))
      case atStart => exact ⟨(x3_1), ((rd_T47 l0 x4_1).f1), (by rfl), H', ⟨Nat.le_refl _⟩, HO_3, HB⟩
      case round =>
       clear H'
       obtain ⟨x3_2, x5_2, rfl, HA, HK2, HO_3, HB⟩ := hrel
       cases gk with
       | zero => exact absurd HA.out (by simp [spec_gridOf.l1])
       | succ k2 =>
        have H := HA.out
        clear HA
        simp only [spec_gridOf.l1] at H
        by_cases c7 : 0 ≤ x4_1
        ·rw [if_pos c7] at H
         have c7b0 : decide (0 ≤ x4_1) = true := decide_eq_true c7
         clear c7
         by_cases c8 : x4_1 < (l0.length : Int)
         ·rw [if_pos c8] at H
          have c8b0 : decide (x4_1 < (l0.length : Int)) = true := decide_eq_true c8
          clear c8
          by_cases c9 : x5_2 < ((rd_T47 l0 x4_1).f2)
          ·rw [if_pos c9] at H
           have c9b0 : decide (x5_2 < ((rd_T47 l0 x4_1).f2)) = true := decide_eq_true c9
           clear c9
           obtain ⟨ji10, hji10⟩ : ∃ j_ : Int, (wrap64 ((wrap64 (((rd_T47 l0 x4_1).f0) * 16)) + x5_2)) = j_ := ⟨_, rfl⟩
           replace H : (if 0 ≤ ji10 then (if ji10 < (x3_2.length : Int) then (spec_gridOf.l1 k2 l0 (x3_2.set (ji10 : Int).toNat true) x4_1 (wrap64 (x5_2 + 1))) else none) else none) = some r := by (rw [hji10] at H; exact H)
           have hji10w : (IntKind.i64.wrap ((wrap64 (((rd_T47 l0 x4_1).f0) * 16)) + x5_2)) = ji10 := (i64_w _).trans hji10
           by_cases c11 : 0 ≤ (ji10)
           ·rw [if_pos c11] at H
            have c11b0 : decide (0 ≤ ji10) = true := decide_eq_true c11
            clear c11
            by_cases c12 : ji10 < (x3_2.length : Int)
            ·rw [if_pos c12] at H
             have c12b0 : decide (ji10 < (x3_2.length : Int)) = true := decide_eq_true c12
             clear c12
             obtain ⟨yz0, hyz1⟩ : ∃ y_ : List Bool, y_ = (x3_2.set (ji10 : Int).toNat true) := ⟨_, rfl⟩
             replace H : (spec_gridOf.l1 k2 l0 yz0 x4_1 (wrap64 (x5_2 + 1))) = some r := by (rw [hyz1]; with_reducible exact H)
             have Nyz1 := mk hyz1
             clear hyz1
             have H' := mk H
             clear H
             have p105005 : 0 ≤ (x4_1 : Int) := of_decide_eq_true (by (with_reducible assumption))
             have q105005 : x4_1 < (l0.length : Int) := of_decide_eq_true (by (with_reducible assumption))
             obtain ⟨ad105005, e105005, hx105005_0, hx105005_1, hx105005_2⟩ := at_T47 HR0.out x4_1 p105005 q105005
             obtain rfl : ad105004 = ad105005 := (by injection e105005)
             replace hx105005_0 := bc HB.out hx105005_0
             replace hx105005_1 := bc HB.out hx105005_1
             replace hx105005_2 := bc HB.out hx105005_2
             replace p105005 := eq_true p105005
             replace q105005 := eq_true q105005
             have p105006 : 0 ≤ (x4_1 : Int) := of_decide_eq_true (by (with_reducible assumption))
             have q105006 : x4_1 < (l0.length : Int) := of_decide_eq_true (by (with_reducible assumption))
             obtain ⟨ad105006, e105006, hx105006_0, hx105006_1, hx105006_2⟩ := at_T47 HR0.out x4_1 p105006 q105006
             obtain rfl : ad105004 = ad105006 := (by injection e105006)
             replace hx105006_0 := bc HB.out hx105006_0
             replace hx105006_1 := bc HB.out hx105006_1
             replace hx105006_2 := bc HB.out hx105006_2
             replace p105006 := eq_true p105006
             replace q105006 := eq_true q105006
             have p13 : 0 ≤ (ji10 : Int) := of_decide_eq_true (by (with_reducible assumption))
             have q13 : (ji10 : Int) < ((x3_2.length : Int) : Int) := of_decide_eq_true (by (with_reducible assumption))
             obtain ⟨go13, co13, eo13, gb13, gl13, cl13, HG13⟩ := Kd.R_form HO_3.out (by omega)
             (cases eo13)
             have GB13 := mk gb13
             clear gb13 gl13 HG13
             obtain ⟨hx13_0, hf13_0⟩ := Kd.R_celln false HO_3.out (ji10 : Int) p13 q13
             replace p13 := eq_true p13
             replace q13 := eq_true q13
             have HP14 := Kd.R_putg HO_3.out (ji10 : Int) true
             go_wp2_with (first | ((with_reducible refine gate_store (t := 4) (p := 36) rfl ?_); refine store_event (t := 4) (p := 36) (v := ?vo_w15) (w1 := (wr.setCell ⟨go13, (ji10 : Int).toNat, none⟩ (.bool true))) ?hg ?ho ?hn ?hr ?_; (case ho => rfl); (case hg => rfl); (case hn => rfl); (case hr => (go_simp; done)); intro w15 hw; have hg : wr.grownBy w15 (some go13) := (by rw [hw]; exact HP14.2); have hp_ : Kd.R Kd.bool 4 w15 w.heap.size (fun _ => True) (.slice (some ⟨go13, 0, none⟩) x3_2.length co13) yz0 := (by rw [hw, Nyz1.out]; exact HP14.1); clear HP14; replace HO_3 := mk (hp_); replace HB := mk ((by rw [hw]; exact below_set HB.out GB13.out : Below w.heap.size w w15)); clear hg hw hp_))
             go_roundg k2
             case measure => have := HK1.out; have := HK2.out; omega
             case rel => exact ⟨(yz0), (wrap64 (x5_2 + 1)), (by rfl), H', ⟨by have := HK1.out; have := HK2.out; omega⟩, HO_3, HB⟩
            rw [if_neg c12] at H
            exact absurd H (by simp)
           rw [if_neg c11] at H
           exact absurd H (by simp)
          rw [if_neg c9] at H
          have c9b0 : decide (x5_2 < ((rd_T47 l0 x4_1).f2)) = false := decide_eq_false c9
          clear c9
          have H' := mk H
          clear H
          have p105005 : 0 ≤ (x4_1 : Int) := of_decide_eq_true (by (with_reducible assumption))
          have q105005 : x4_1 < (l0.length : Int) := of_decide_eq_true (by (with_reducible assumption))
          obtain ⟨ad105005, e105005, hx105005_0, hx105005_1, hx105005_2⟩ := at_T47 HR0.out x4_1 p105005 q105005
          obtain rfl : ad105004 = ad105005 := (by injection e105005)
          replace hx105005_0 := bc HB.out hx105005_0
          replace hx105005_1 := bc HB.out hx105005_1
          replace hx105005_2 := bc HB.out hx105005_2
          replace p105005 := eq_true p105005
          replace q105005 := eq_true q105005
          go_wp2
          go_roundg k2
          case measure => have := HK1.out; have := HK2.out; omega
          case rel => exact ⟨(x3_2), (wrap64 (x4_1 + 1)), (by rfl), H', ⟨by have := HK1.out; have := HK2.out; omega⟩, HO_3, HB⟩
         rw [if_neg c8] at H
         exact absurd H (by simp)
        rw [if_neg c7] at H
        exact absurd H (by simp)
     rw [if_neg c6] at H
     exact absurd H (by simp)
    rw [if_neg c5] at H
    have c5b0 : decide (x4_1 < (l0.length : Int)) = false := decide_eq_false c5
    clear c5
    obtain rfl := Option.some.inj H
    go_wp2
    go_ret
    exact ⟨_, by rfl, by exact HO_3.out, by exact HB.out⟩
 rw [if_neg c2] at H
 exact absurd H (by simp)


mutual
def spec_runsOf.l0 : Nat → List Bool → List S47 → Int → Option ((List S47))
 | 0, _, _, _ => none
 | k + 1, x0, x3, x4 => if x4 < 16 then (spec_runsOf.l1 k x0 x3 x4 (-1) 0) else (some x3)
def spec_runsOf.l1 : Nat → List Bool → List S47 → Int → Int → Int → Option ((List S47))
 | 0, _, _, _, _, _ => none
 | k + 1, x0, x3, x4, x5, x6 => if x6 ≤ 16 then (if x6 < 16 then (if 0 ≤ (wrap64 ((wrap64 (x4 * 16)) + x6)) then (if (wrap64 ((wrap64 (x4 * 16)) + x6)) < (x0.length : Int) then (spec_runsOf.j2 k x0 x3 x4 x5 x6 (rdOf false x0 (wrap64 ((wrap64 (x4 * 16)) + x6)))) else none) else none) else (spec_runsOf.j2 k x0 x3 x4 x5 x6 false)) else (spec_runsOf.l0 k x0 x3 (wrap64 (x4 + 1)))
def spec_runsOf.j2 : Nat → List Bool → List S47 → Int → Int → Int → Bool → Option ((List S47))
 | 0, _, _, _, _, _, _ => none
 | k + 1, x0, x3, x4, x5, x6, x7 => if x7 = true then (spec_runsOf.j3 k x0 x3 x4 x5 x6 x7 (decide (x5 < 0))) else (spec_runsOf.j3 k x0 x3 x4 x5 x6 x7 false)
def spec_runsOf.j3 : Nat → List Bool → List S47 → Int → Int → Int → Bool → Bool → Option ((List S47))
 | 0, _, _, _, _, _, _, _ => none
 | k + 1, x0, x3, x4, x5, x6, x7, x32 => if x32 = true then (if x7 = true then (spec_runsOf.l1 k x0 x3 x4 x6 (wrap64 (x6 + 1))) else (if x6 ≥ 0 then (if x3.length < 5864062014805 then (spec_runsOf.l1 k x0 (x3 ++ [(⟨x4, x6, x6⟩ : S47)]) x4 (-1) (wrap64 (x6 + 1))) else none) else (spec_runsOf.l1 k x0 x3 x4 x6 (wrap64 (x6 + 1))))) else (if x7 = true then (spec_runsOf.l1 k x0 x3 x4 x5 (wrap64 (x6 + 1))) else (if x5 ≥ 0 then (if x3.length < 5864062014805 then (spec_runsOf.l1 k x0 (x3 ++ [(⟨x4, x5, x6⟩ : S47)]) x4 (-1) (wrap64 (x6 + 1))) else none) else (spec_runsOf.l1 k x0 x3 x4 x5 (wrap64 (x6 + 1)))))
end
def spec_runsOf.f (k : Nat) (l0 : List Bool) : Option ((List S47)) := spec_runsOf.l0 k l0 (([] : List S47)) 0
theorem spec_runsOf.calls (k : Nat) (A0 : Option Addr) (c0 : Nat) (l0 : List Bool) (r : List S47) (w : World) (hr0 : Kd.C Kd.bool w A0 l0.length l0) (hc0 : l0.length ≤ c0) (h : spec_runsOf.f k l0 = some r) :
  Calls Try.prog 65 #[.slice A0 l0.length c0] w fun e w' => ∃ v0_ : Value, e = .returned v0_ ∧ Kd.R k47 47 w' w.heap.size (fun _ => True) v0_ r ∧ Below w.heap.size w w' := by
 have HR0 := mk hr0
 clear hr0 hc0
 have HB := mk (Below.refl w.heap.size w)
 have H : (spec_runsOf.l0 k l0 (([] : List S47)) 0) = some r := h
 clear h
 obtain ⟨yz0, hyz0⟩ : ∃ y_ : List (S47), y_ = (([] : List S47)) := ⟨_, rfl⟩
 replace H : (spec_runsOf.l0 k l0 yz0 0) = some r := by (rw [hyz0]; with_reducible exact H)
 have Nyz0 := mk hyz0
 clear hyz0
 have H' := mk H
 clear H
 go_enter Try.func65, Try.ntmps65
 go_wp2_with (first | ((with_reducible refine gate_dst (N := 8) rfl ?_); refine Kd.R_lit k47 _ 47 ?hg (N := 8) ?hd (xs := ([] : List S47)) (inner := []) (ok := fun _ => True) (okp := fun _ => True) ?hr ?hp (fun _ hk => hk) trivial (Below.refl _ _) (Nat.le_refl _) (by simp) ?_; (case hd => rfl); (case hg => rfl); (case hr => (go_simp; done)); (case hp => exact (Reps.none _ _)); intro vz0 w2 ho3 hb hg_ hnew_; clear hg_ hnew_; (rw [← Nyz0.out] at ho3); have HOz0 := mk (Kd.R_lower ho3 (below_size HB.out)); replace HB := mk (below_step HB.out hb); clear hb ho3))
 go_loopg [3, 4] k (fun kq v3 v4 w' => ∃ (x3_1 : List S47) (x4_1 : Int), v4 = .int .i64 x4_1 ∧ Aside0 (spec_runsOf.l0 kq l0 x3_1 x4_1 = some r) ∧ Aside0 (kq ≤ k) ∧ Aside0 (Kd.R k47 47 w' w.heap.size (fun _ => True) v3 x3_1) ∧ Aside0 (Below w.heap.size w w'))
 case atStart => exact ⟨(yz0), (0), (by rfl), H', ⟨Nat.le_refl _⟩, HOz0, HB⟩
 case round =>
  clear H'
  obtain ⟨x3_1, x4_1, rfl, HA, HK1, HO_3, HB⟩ := hrel
  cases gk with
  | zero => exact absurd HA.out (by simp [spec_runsOf.l0])
  | succ k1 =>
   have H := HA.out
   clear HA
   simp only [spec_runsOf.l0] at H
   by_cases c4 : x4_1 < 16
   ·rw [if_pos c4] at H
    have c4b0 : decide (x4_1 < 16) = true := decide_eq_true c4
    clear c4
    have H' := mk H
    clear H
    go_wp2
    go_loopg [3, 5, 6] k1 (fun kq v3 v5 v6 w' => ∃ (x3_2 : List S47) (x5_2 : Int) (x6_2 : Int), v5 = .int .i64 x5_2 ∧ v6 = .int .i64 x6_2 ∧ Aside0 (spec_runsOf.l1 kq l0 x3_2 x4_1 x5_2 x6_2 = some r) ∧ Aside0 (kq ≤ k1) ∧ Aside0 (Kd.R k47 47 w' w.heap.size (fun _ => True) v3 x3_2) ∧ Aside0 (Below w.heap.size w w'))
    case atStart => exact ⟨(x3_1), (-1), (0), (by rfl), (by rfl), H', ⟨Nat.le_refl _⟩, HO_3, HB⟩
    case round =>
     clear H'
     obtain ⟨x3_2, x5_2, x6_2, rfl, rfl, HA, HK2, HO_3, HB⟩ := hrel
     cases gk with
     | zero => exact absurd HA.out (by simp [spec_runsOf.l1])
     | succ k2 =>
      have H := HA.out
      clear HA
      simp only [spec_runsOf.l1] at H
      by_cases c5 : x6_2 ≤ 16
      ·rw [if_pos c5] at H
       have c5b0 : decide (x6_2 ≤ 16) = true := decide_eq_true c5
       clear c5
       have HC6 := mk H
       clear H
       go_upto_region 9 with (fail)
       go_cut [7] (fun v7 wc => ∃ (kq : Nat) (x7_5 : Bool), v7 = .bool x7_5 ∧ Aside0 (spec_runsOf.j2 kq l0 x3_2 x4_1 x5_2 x6_2 x7_5 = some r) ∧ Aside0 (kq ≤ k2) ∧ Aside0 (Kd.R k47 47 wc w.heap.size (fun _ => True) u3 x3_2) ∧ Aside0 (Below w.heap.size w wc))
       case first =>
        have H := HC6.out
        clear HC6
        by_cases c7 : x6_2 < 16
        ·rw [if_pos c7] at H
         have c7b0 : decide (x6_2 < 16) = true := decide_eq_true c7
         clear c7
         (skip)
         obtain ⟨ji8, hji8⟩ : ∃ j_ : Int, (wrap64 ((wrap64 (x4_1 * 16)) + x6_2)) = j_ := ⟨_, rfl⟩
         replace H : (if 0 ≤ ji8 then (if ji8 < (l0.length : Int) then (spec_runsOf.j2 k2 l0 x3_2 x4_1 x5_2 x6_2 (rdOf false l0 ji8)) else none) else none) = some r := by (rw [hji8] at H; exact H)
         have hji8w : (IntKind.i64.wrap ((wrap64 (x4_1 * 16)) + x6_2)) = ji8 := (i64_w _).trans hji8
         by_cases c9 : 0 ≤ (ji8)
         ·rw [if_pos c9] at H
          have c9b0 : decide (0 ≤ ji8) = true := decide_eq_true c9
          clear c9
          by_cases c10 : ji8 < (l0.length : Int)
          ·rw [if_pos c10] at H
           have c10b0 : decide (ji8 < (l0.length : Int)) = true := decide_eq_true c10
           clear c10
           have H' := mk H
           clear H
           have p66004 : 0 ≤ (ji8 : Int) := of_decide_eq_true (by (with_reducible assumption))
           have q66004 : ji8 < (l0.length : Int) := of_decide_eq_true (by (with_reducible assumption))
           obtain ⟨ad66004, e66004, hx66004_0⟩ := Kd.at_bool HR0.out ji8 p66004 q66004
           cases e66004
           replace hx66004_0 := bc HB.out hx66004_0
           replace p66004 := eq_true p66004
           replace q66004 := eq_true q66004
           go_wp2
           go_meet
           case rel => exact ⟨_, (rdOf false l0 ji8), (by rfl), H', ⟨by have := HK1.out; have := HK2.out; omega⟩, HO_3, HB⟩
          rw [if_neg c10] at H
          exact absurd H (by simp)
         rw [if_neg c9] at H
         exact absurd H (by simp)
        rw [if_neg c7] at H
        have c7b0 : decide (x6_2 < 16) = false := decide_eq_false c7
        clear c7
        (skip)
        have H' := mk H
        clear H
        go_wp2
        go_meet
        case rel => exact ⟨_, (false), (by rfl), H', ⟨by have := HK1.out; have := HK2.out; omega⟩, HO_3, HB⟩
       case rest =>
        clear HC6
        obtain ⟨kq, x7_5, rfl, HA, HJ5, HO_3, HB⟩ := hcut
        cases kq with
        | zero => exact absurd HA.out (by simp [spec_runsOf.j2])
        | succ kj5 =>
         have H := HA.out
         clear HA
         simp only [spec_runsOf.j2] at H
         have HC11 := mk H
         clear H
         go_upto_region 10 with (fail)
         go_cut [32] (fun v32 wc => ∃ (kq : Nat) (x32_10 : Bool), v32 = .bool x32_10 ∧ Aside0 (spec_runsOf.j3 kq l0 x3_2 x4_1 x5_2 x6_2 x7_5 x32_10 = some r) ∧ Aside0 (kq ≤ kj5) ∧ Aside0 (Kd.R k47 47 wc w.heap.size (fun _ => True) u3 x3_2) ∧ Aside0 (Below w.heap.size w wc))
         case first =>
          have H := HC11.out
          clear HC11
          by_cases c12 : x7_5 = true
          ·subst c12
           have H1 : (spec_runsOf.j3 kj5 l0 x3_2 x4_1 x5_2 x6_2 true (decide (x5_2 < 0))) = some r := by rw [if_pos rfl] at H; exact H
           clear H
           have H := H1
           clear H1
           have H' := mk H
           clear H
           go_wp2
           go_meet
           case rel => exact ⟨_, (decide (x5_2 < 0)), (by rfl), H', ⟨by have := HK1.out; have := HK2.out; have := HJ5.out; omega⟩, HO_3, HB⟩
          replace c12 := Bool.eq_false_iff.mpr c12
          subst c12
          have H1 : (spec_runsOf.j3 kj5 l0 x3_2 x4_1 x5_2 x6_2 false false) = some r := by rw [if_neg (show ¬ (false = true) by decide)] at H; exact H
          clear H
          have H := H1
          clear H1
          have H' := mk H
          clear H
          go_wp2
          go_meet
          case rel => exact ⟨_, (false), (by rfl), H', ⟨by have := HK1.out; have := HK2.out; have := HJ5.out; omega⟩, HO_3, HB⟩
         case rest =>
          clear HC11
          obtain ⟨kq, x32_10, rfl, HA, HJ10, HO_3, HB⟩ := hcut
          cases kq with
          | zero => exact absurd HA.out (by simp [spec_runsOf.j3])
          | succ kj10 =>
           have H := HA.out
           clear HA
           simp only [spec_runsOf.j3] at H
           by_cases c13 : x32_10 = true
           ·subst c13
            have H1 : (if x7_5 = true then (spec_runsOf.l1 kj10 l0 x3_2 x4_1 x6_2 (wrap64 (x6_2 + 1))) else (if x6_2 ≥ 0 then (if x3_2.length < 5864062014805 then (spec_runsOf.l1 kj10 l0 (x3_2 ++ [(⟨x4_1, x6_2, x6_2⟩ : S47)]) x4_1 (-1) (wrap64 (x6_2 + 1))) else none) else (spec_runsOf.l1 kj10 l0 x3_2 x4_1 x6_2 (wrap64 (x6_2 + 1))))) = some r := by rw [if_pos rfl] at H; exact H
            clear H
            have H := H1
            clear H1
            by_cases c14 : x7_5 = true
            ·subst c14
             have H1 : (spec_runsOf.l1 kj10 l0 x3_2 x4_1 x6_2 (wrap64 (x6_2 + 1))) = some r := by rw [if_pos rfl] at H; exact H
             clear H
             have H := H1
             clear H1
             have H' := mk H
             clear H
             go_wp2
             go_roundg kj10
             case measure => have := HK1.out; have := HK2.out; have := HJ5.out; have := HJ10.out; omega
             case rel => exact ⟨(x3_2), (x6_2), (wrap64 (x6_2 + 1)), (by rfl), (by rfl), H', ⟨by have := HK1.out; have := HK2.out; have := HJ5.out; have := HJ10.out; omega⟩, HO_3, HB⟩
            replace c14 := Bool.eq_false_iff.mpr c14
            subst c14
            have H1 : (if x6_2 ≥ 0 then (if x3_2.length < 5864062014805 then (spec_runsOf.l1 kj10 l0 (x3_2 ++ [(⟨x4_1, x6_2, x6_2⟩ : S47)]) x4_1 (-1) (wrap64 (x6_2 + 1))) else none) else (spec_runsOf.l1 kj10 l0 x3_2 x4_1 x6_2 (wrap64 (x6_2 + 1)))) = some r := by rw [if_neg (show ¬ (false = true) by decide)] at H; exact H
            clear H
            have H := H1
            clear H1
            by_cases c15 : x6_2 ≥ 0
            ·rw [if_pos c15] at H
             have c15b0 : decide (0 ≤ x6_2) = true := decide_eq_true c15
             clear c15
             by_cases c16 : x3_2.length < 5864062014805
             ·rw [if_pos c16] at H
              have LMc16 := mk c16
              clear c16
              obtain ⟨yz1, hyz1⟩ : ∃ y_ : List (S47), y_ = (x3_2 ++ [(⟨x4_1, x6_2, x6_2⟩ : S47)]) := ⟨_, rfl⟩
              replace H : (spec_runsOf.l1 kj10 l0 yz1 x4_1 (-1) (wrap64 (x6_2 + 1))) = some r := by (rw [hyz1]; with_reducible exact H)
              have Nyz1 := mk hyz1
              clear hyz1
              have H' := mk H
              clear H
              go_wp2_with (first | ((with_reducible refine gate_builtin (b := .append) (xs := #[.tmp 40, .tmp 45]) rfl ?_); at_builtin; refine Kd.R_append k47 (w0 := w) w.heap.size rfl (.tmp 40) (.tmp 45) 26 47 (.agg #[(.int .i64 0), (.int .i64 0), (.int .i64 0)]) 24 rfl Try.underlying26 info47 rfl (by decide) (by omega) u3 x3_2 (⟨x4_1, x6_2, x6_2⟩ : S47) [.int .i64 x4_1, .int .i64 x6_2, .int .i64 x6_2] (fun _ => True) (fun _ => False) rfl rfl ?aP (fun _ hk => hk.elim) ?aF ?aO ?aB ?aS ?aL ?_; (case aP => exact k47_mkM _ _ _ (⟨x4_1, x6_2, x6_2⟩ : S47)); (case aB => exact HB.out); (case aF => exact (fun _ _ => trivial)); (case aO => exact HO_3.out); (case aS => exact (below_size HB.out)); (case aL => have := LMc16.out; omega); intro vz1 w17 ho hb hg hat; rw [← Nyz1.out] at ho; have n0_ := mk (hb); have n1_ := mk (ho); clear HB; clear HO_3; have HB := n0_; have HOz1 := n1_; clear ho hb hg hat))
              go_roundg kj10
              case measure => have := HK1.out; have := HK2.out; have := HJ5.out; have := HJ10.out; omega
              case rel => exact ⟨(yz1), (-1), (wrap64 (x6_2 + 1)), (by rfl), (by rfl), H', ⟨by have := HK1.out; have := HK2.out; have := HJ5.out; have := HJ10.out; omega⟩, HOz1, HB⟩
             rw [if_neg c16] at H
             exact absurd H (by simp)
            rw [if_neg c15] at H
            have c15b0 : decide (0 ≤ x6_2) = false := decide_eq_false c15
            clear c15
            have H' := mk H
            clear H
            go_wp2
            go_roundg kj10
            case measure => have := HK1.out; have := HK2.out; have := HJ5.out; have := HJ10.out; omega
            case rel => exact ⟨(x3_2), (x6_2), (wrap64 (x6_2 + 1)), (by rfl), (by rfl), H', ⟨by have := HK1.out; have := HK2.out; have := HJ5.out; have := HJ10.out; omega⟩, HO_3, HB⟩
           replace c13 := Bool.eq_false_iff.mpr c13
           subst c13
           have H1 : (if x7_5 = true then (spec_runsOf.l1 kj10 l0 x3_2 x4_1 x5_2 (wrap64 (x6_2 + 1))) else (if x5_2 ≥ 0 then (if x3_2.length < 5864062014805 then (spec_runsOf.l1 kj10 l0 (x3_2 ++ [(⟨x4_1, x5_2, x6_2⟩ : S47)]) x4_1 (-1) (wrap64 (x6_2 + 1))) else none) else (spec_runsOf.l1 kj10 l0 x3_2 x4_1 x5_2 (wrap64 (x6_2 + 1))))) = some r := by rw [if_neg (show ¬ (false = true) by decide)] at H; exact H
           clear H
           have H := H1
           clear H1
           by_cases c18 : x7_5 = true
           ·subst c18
            have H1 : (spec_runsOf.l1 kj10 l0 x3_2 x4_1 x5_2 (wrap64 (x6_2 + 1))) = some r := by rw [if_pos rfl] at H; exact H
            clear H
            have H := H1
            clear H1
            have H' := mk H
            clear H
            go_wp2
            go_roundg kj10
            case measure => have := HK1.out; have := HK2.out; have := HJ5.out; have := HJ10.out; omega
            case rel => exact ⟨(x3_2), (x5_2), (wrap64 (x6_2 + 1)), (by rfl), (by rfl), H', ⟨by have := HK1.out; have := HK2.out; have := HJ5.out; have := HJ10.out; omega⟩, HO_3, HB⟩
           replace c18 := Bool.eq_false_iff.mpr c18
           subst c18
           have H1 : (if x5_2 ≥ 0 then (if x3_2.length < 5864062014805 then (spec_runsOf.l1 kj10 l0 (x3_2 ++ [(⟨x4_1, x5_2, x6_2⟩ : S47)]) x4_1 (-1) (wrap64 (x6_2 + 1))) else none) else (spec_runsOf.l1 kj10 l0 x3_2 x4_1 x5_2 (wrap64 (x6_2 + 1)))) = some r := by rw [if_neg (show ¬ (false = true) by decide)] at H; exact H
           clear H
           have H := H1
           clear H1
           by_cases c19 : x5_2 ≥ 0
           ·rw [if_pos c19] at H
            have c19b0 : decide (0 ≤ x5_2) = true := decide_eq_true c19
            clear c19
            by_cases c20 : x3_2.length < 5864062014805
            ·rw [if_pos c20] at H
             have LMc20 := mk c20
             clear c20
             obtain ⟨yz2, hyz2⟩ : ∃ y_ : List (S47), y_ = (x3_2 ++ [(⟨x4_1, x5_2, x6_2⟩ : S47)]) := ⟨_, rfl⟩
             replace H : (spec_runsOf.l1 kj10 l0 yz2 x4_1 (-1) (wrap64 (x6_2 + 1))) = some r := by (rw [hyz2]; with_reducible exact H)
             have Nyz2 := mk hyz2
             clear hyz2
             have H' := mk H
             clear H
             go_wp2_with (first | ((with_reducible refine gate_builtin (b := .append) (xs := #[.tmp 40, .tmp 45]) rfl ?_); at_builtin; refine Kd.R_append k47 (w0 := w) w.heap.size rfl (.tmp 40) (.tmp 45) 26 47 (.agg #[(.int .i64 0), (.int .i64 0), (.int .i64 0)]) 24 rfl Try.underlying26 info47 rfl (by decide) (by omega) u3 x3_2 (⟨x4_1, x5_2, x6_2⟩ : S47) [.int .i64 x4_1, .int .i64 x5_2, .int .i64 x6_2] (fun _ => True) (fun _ => False) rfl rfl ?aP (fun _ hk => hk.elim) ?aF ?aO ?aB ?aS ?aL ?_; (case aP => exact k47_mkM _ _ _ (⟨x4_1, x5_2, x6_2⟩ : S47)); (case aB => exact HB.out); (case aF => exact (fun _ _ => trivial)); (case aO => exact HO_3.out); (case aS => exact (below_size HB.out)); (case aL => have := LMc20.out; omega); intro vz2 w21 ho hb hg hat; rw [← Nyz2.out] at ho; have n0_ := mk (hb); have n1_ := mk (ho); clear HB; clear HO_3; have HB := n0_; have HOz2 := n1_; clear ho hb hg hat))
             go_roundg kj10
             case measure => have := HK1.out; have := HK2.out; have := HJ5.out; have := HJ10.out; omega
             case rel => exact ⟨(yz2), (-1), (wrap64 (x6_2 + 1)), (by rfl), (by rfl), H', ⟨by have := HK1.out; have := HK2.out; have := HJ5.out; have := HJ10.out; omega⟩, HOz2, HB⟩
            rw [if_neg c20] at H
            exact absurd H (by simp)
           rw [if_neg c19] at H
           have c19b0 : decide (0 ≤ x5_2) = false := decide_eq_false c19
           clear c19
           have H' := mk H
           clear H
           go_wp2
           go_roundg kj10
           case measure => have := HK1.out; have := HK2.out; have := HJ5.out; have := HJ10.out; omega
           case rel => exact ⟨(x3_2), (x5_2), (wrap64 (x6_2 + 1)), (by rfl), (by rfl), H', ⟨by have := HK1.out; have := HK2.out; have := HJ5.out; have := HJ10.out; omega⟩, HO_3, HB⟩
      rw [if_neg c5] at H
      have c5b0 : decide (x6_2 ≤ 16) = false := decide_eq_false c5
      clear c5
      have H' := mk H
      clear H
      go_wp2
      go_roundg k2
      case measure => have := HK1.out; have := HK2.out; omega
      case rel => exact ⟨(x3_2), (wrap64 (x4_1 + 1)), (by rfl), H', ⟨by have := HK1.out; have := HK2.out; omega⟩, HO_3, HB⟩
   rw [if_neg c4] at H
   have c4b0 : decide (x4_1 < 16) = false := decide_eq_false c4
   clear c4
   obtain rfl := Option.some.inj H
   go_wp2
   go_ret
   exact ⟨_, by rfl, by exact HO_3.out, by exact HB.out⟩


def impl_Box_has.f (a0_0 : Int) (a0_1 : Int) (a0_2 : Int) (a0_3 : Int) (a1 : Int) (a2 : Int) : Option Bool := if a1 ≥ a0_0 then (if a1 < (wrap64 (a0_0 + a0_2)) then (if a2 ≥ a0_1 then (some (decide (a2 < (wrap64 (a0_1 + a0_3))))) else (some false)) else (some false)) else (some false)
theorem impl_Box_has.calls (a0_0 : Int) (a0_1 : Int) (a0_2 : Int) (a0_3 : Int) (a1 : Int) (a2 : Int) (r : Bool) (w : World) (h : impl_Box_has.f a0_0 a0_1 a0_2 a0_3 a1 a2 = some r) :
  Calls Try.prog 81 #[.agg #[.int .i64 a0_0, .int .i64 a0_1, .int .i64 a0_2, .int .i64 a0_3], .int .i64 a1, .int .i64 a2] w fun e w' => e = .returned (.bool r) ∧ Below w.heap.size w w' := by
 have hu60 := Try.underlying60
 have HB := mk (Below.refl w.heap.size w)
 have H : (if a1 ≥ a0_0 then (if a1 < (wrap64 (a0_0 + a0_2)) then (if a2 ≥ a0_1 then (some (decide (a2 < (wrap64 (a0_1 + a0_3))))) else (some false)) else (some false)) else (some false)) = some r := h
 clear h
 by_cases c4 : a1 ≥ a0_0
 ·rw [if_pos c4] at H
  have c4b0 : decide (a0_0 ≤ a1) = true := decide_eq_true c4
  clear c4
  by_cases c5 : a1 < (wrap64 (a0_0 + a0_2))
  ·rw [if_pos c5] at H
   have c5b0 : decide (a1 < (wrap64 (a0_0 + a0_2))) = true := decide_eq_true c5
   clear c5
   by_cases c6 : a2 ≥ a0_1
   ·rw [if_pos c6] at H
    have c6b0 : decide (a0_1 ≤ a2) = true := decide_eq_true c6
    clear c6
    obtain rfl := Option.some.inj H
    go_enter Try.func81, Try.ntmps81
    go_wp2_with (first | ((with_reducible refine gate_dst (N := 3) rfl ?_); refine box_event ?hg (N := 3) ?hd (cs := #[.int .i64 a0_0, .int .i64 a0_1, .int .i64 a0_2, .int .i64 a0_3]) (t := 60) ?hr ?_; (case hd => rfl); (case hg => rfl); (case hr => (go_simp; done)); intro gb82001 hg w7 hbox hb; have n0_ := mk (below_step HB.out hb); have n1_ := mk (hbox); have n2_ := mk ((by rw [hg]; exact (below_size HB.out) : w.heap.size ≤ gb82001)); have n3_ := mk ((by rw [hg]; exact (below_size HB.out) : w.heap.size ≤ gb82001)); clear HB; have HB := n0_; have BK82001 := n1_; have GW82001 := n2_; have GE82001 := n3_; clear n0_ n1_ n2_ n3_; clear hb hbox hg; have hcz8_0 : w7.cell? ⟨gb82001, 0, none⟩ = some (.int .i64 a0_0) := (blk_cell BK82001.out 0).trans rfl; have hcz8_1 : w7.cell? ⟨gb82001, 1, none⟩ = some (.int .i64 a0_1) := (blk_cell BK82001.out 1).trans rfl; have hcz8_2 : w7.cell? ⟨gb82001, 2, none⟩ = some (.int .i64 a0_2) := (blk_cell BK82001.out 2).trans rfl; have hcz8_3 : w7.cell? ⟨gb82001, 3, none⟩ = some (.int .i64 a0_3) := (blk_cell BK82001.out 3).trans rfl; have hfz8_0 := blk_frozen BK82001.out 0; have hfz8_1 := blk_frozen BK82001.out 1; have hfz8_2 := blk_frozen BK82001.out 2; have hfz8_3 := blk_frozen BK82001.out 3))
    go_ret
    exact ⟨by rfl, by exact HB.out⟩
   ·rw [if_neg c6] at H
    have c6b0 : decide (a0_1 ≤ a2) = false := decide_eq_false c6
    clear c6
    obtain rfl := Option.some.inj H
    go_enter Try.func81, Try.ntmps81
    go_wp2_with (first | ((with_reducible refine gate_dst (N := 3) rfl ?_); refine box_event ?hg (N := 3) ?hd (cs := #[.int .i64 a0_0, .int .i64 a0_1, .int .i64 a0_2, .int .i64 a0_3]) (t := 60) ?hr ?_; (case hd => rfl); (case hg => rfl); (case hr => (go_simp; done)); intro gb82001 hg w9 hbox hb; have n0_ := mk (below_step HB.out hb); have n1_ := mk (hbox); have n2_ := mk ((by rw [hg]; exact (below_size HB.out) : w.heap.size ≤ gb82001)); have n3_ := mk ((by rw [hg]; exact (below_size HB.out) : w.heap.size ≤ gb82001)); clear HB; have HB := n0_; have BK82001 := n1_; have GW82001 := n2_; have GE82001 := n3_; clear n0_ n1_ n2_ n3_; clear hb hbox hg; have hcz10_0 : w9.cell? ⟨gb82001, 0, none⟩ = some (.int .i64 a0_0) := (blk_cell BK82001.out 0).trans rfl; have hcz10_1 : w9.cell? ⟨gb82001, 1, none⟩ = some (.int .i64 a0_1) := (blk_cell BK82001.out 1).trans rfl; have hcz10_2 : w9.cell? ⟨gb82001, 2, none⟩ = some (.int .i64 a0_2) := (blk_cell BK82001.out 2).trans rfl; have hcz10_3 : w9.cell? ⟨gb82001, 3, none⟩ = some (.int .i64 a0_3) := (blk_cell BK82001.out 3).trans rfl; have hfz10_0 := blk_frozen BK82001.out 0; have hfz10_1 := blk_frozen BK82001.out 1; have hfz10_2 := blk_frozen BK82001.out 2; have hfz10_3 := blk_frozen BK82001.out 3))
    go_ret
    exact ⟨by rfl, by exact HB.out⟩
  ·rw [if_neg c5] at H
   have c5b0 : decide (a1 < (wrap64 (a0_0 + a0_2))) = false := decide_eq_false c5
   clear c5
   obtain rfl := Option.some.inj H
   go_enter Try.func81, Try.ntmps81
   go_wp2_with (first | ((with_reducible refine gate_dst (N := 3) rfl ?_); refine box_event ?hg (N := 3) ?hd (cs := #[.int .i64 a0_0, .int .i64 a0_1, .int .i64 a0_2, .int .i64 a0_3]) (t := 60) ?hr ?_; (case hd => rfl); (case hg => rfl); (case hr => (go_simp; done)); intro gb82001 hg w11 hbox hb; have n0_ := mk (below_step HB.out hb); have n1_ := mk (hbox); have n2_ := mk ((by rw [hg]; exact (below_size HB.out) : w.heap.size ≤ gb82001)); have n3_ := mk ((by rw [hg]; exact (below_size HB.out) : w.heap.size ≤ gb82001)); clear HB; have HB := n0_; have BK82001 := n1_; have GW82001 := n2_; have GE82001 := n3_; clear n0_ n1_ n2_ n3_; clear hb hbox hg; have hcz12_0 : w11.cell? ⟨gb82001, 0, none⟩ = some (.int .i64 a0_0) := (blk_cell BK82001.out 0).trans rfl; have hcz12_1 : w11.cell? ⟨gb82001, 1, none⟩ = some (.int .i64 a0_1) := (blk_cell BK82001.out 1).trans rfl; have hcz12_2 : w11.cell? ⟨gb82001, 2, none⟩ = some (.int .i64 a0_2) := (blk_cell BK82001.out 2).trans rfl; have hcz12_3 : w11.cell? ⟨gb82001, 3, none⟩ = some (.int .i64 a0_3) := (blk_cell BK82001.out 3).trans rfl; have hfz12_0 := blk_frozen BK82001.out 0; have hfz12_1 := blk_frozen BK82001.out 1; have hfz12_2 := blk_frozen BK82001.out 2; have hfz12_3 := blk_frozen BK82001.out 3))
   go_ret
   exact ⟨by rfl, by exact HB.out⟩
 ·rw [if_neg c4] at H
  have c4b0 : decide (a0_0 ≤ a1) = false := decide_eq_false c4
  clear c4
  obtain rfl := Option.some.inj H
  go_enter Try.func81, Try.ntmps81
  go_wp2_with (first | ((with_reducible refine gate_dst (N := 3) rfl ?_); refine box_event ?hg (N := 3) ?hd (cs := #[.int .i64 a0_0, .int .i64 a0_1, .int .i64 a0_2, .int .i64 a0_3]) (t := 60) ?hr ?_; (case hd => rfl); (case hg => rfl); (case hr => (go_simp; done)); intro gb82001 hg w13 hbox hb; have n0_ := mk (below_step HB.out hb); have n1_ := mk (hbox); have n2_ := mk ((by rw [hg]; exact (below_size HB.out) : w.heap.size ≤ gb82001)); have n3_ := mk ((by rw [hg]; exact (below_size HB.out) : w.heap.size ≤ gb82001)); clear HB; have HB := n0_; have BK82001 := n1_; have GW82001 := n2_; have GE82001 := n3_; clear n0_ n1_ n2_ n3_; clear hb hbox hg; have hcz14_0 : w13.cell? ⟨gb82001, 0, none⟩ = some (.int .i64 a0_0) := (blk_cell BK82001.out 0).trans rfl; have hcz14_1 : w13.cell? ⟨gb82001, 1, none⟩ = some (.int .i64 a0_1) := (blk_cell BK82001.out 1).trans rfl; have hcz14_2 : w13.cell? ⟨gb82001, 2, none⟩ = some (.int .i64 a0_2) := (blk_cell BK82001.out 2).trans rfl; have hcz14_3 : w13.cell? ⟨gb82001, 3, none⟩ = some (.int .i64 a0_3) := (blk_cell BK82001.out 3).trans rfl; have hfz14_0 := blk_frozen BK82001.out 0; have hfz14_1 := blk_frozen BK82001.out 1; have hfz14_2 := blk_frozen BK82001.out 2; have hfz14_3 := blk_frozen BK82001.out 3))
  go_ret
  exact ⟨by rfl, by exact HB.out⟩


def spec_copyInts.f (l0 : List Int) : Option (List Int) := (some (([] : List Int) : List Int)).bind fun y96001 => (if y96001.length + l0.length < 17592186044416 then (some (y96001 ++ l0)) else none)
theorem spec_copyInts.calls (A0 : Option Addr) (c0 : Nat) (l0 : List Int) (r : List Int) (w : World) (hr0 : Kd.C (Kd.int .i64) w A0 l0.length l0) (hc0 : l0.length ≤ c0) (h : spec_copyInts.f l0 = some r) :
  Calls Try.prog 95 #[.slice A0 l0.length c0] w fun e w' => ∃ v0_ : Value, e = .returned v0_ ∧ Kd.R (Kd.int .i64) 3 w' w.heap.size (fun _ => True) v0_ r ∧ Below w.heap.size w w' := by
 have HR0 := Aside0.mk hr0
 have HC0 := Aside0.mk hc0
 clear hr0 hc0
 have HB := Aside0.mk (Below.refl w.heap.size w)
 have H : ((some (([] : List Int) : List Int)).bind fun y96001 => (if y96001.length + l0.length < 17592186044416 then (some (y96001 ++ l0)) else none)) = some r := h
 clear h
 obtain ⟨y96001, hy96001⟩ : ∃ y_ : List Int, y_ = ([] : List Int) := ⟨_, rfl⟩
 replace H : (if y96001.length + l0.length < 17592186044416 then (some (y96001 ++ l0)) else none) = some r := by first | (rw [hy96001]; with_reducible exact H) | (have H2_ := (Option.bind_some _ _).symm.trans H; rw [hy96001]; with_reducible exact H2_) | (have H2_ := (Option.bind_some _ _).symm.trans H; with_reducible exact H2_) | with_reducible exact H | (rw [hy96001]; exact H) | exact H
 have Ny96001 := Aside0.mk hy96001
 clear hy96001
 by_cases c2 : y96001.length + l0.length < 17592186044416
 ·rw [if_pos c2] at H
  have LMc2 := Aside0.mk c2
  clear c2
  obtain ⟨y96004, hy96004⟩ : ∃ y_ : List Int, y_ = (y96001 ++ l0) := ⟨_, rfl⟩
  replace H : (some y96004) = some r := by first | (rw [hy96004]; with_reducible exact H) | (have H2_ := (Option.bind_some _ _).symm.trans H; rw [hy96004]; with_reducible exact H2_) | (have H2_ := (Option.bind_some _ _).symm.trans H; with_reducible exact H2_) | with_reducible exact H | (rw [hy96004]; exact H) | exact H
  have Ny96004 := Aside0.mk hy96004
  clear hy96004
  obtain rfl := Option.some.inj H
  go_enter Try.func95, Try.ntmps95
  go_wp2_with (first | ((with_reducible refine gate_dst (N := 3) rfl ?_); refine Kd.R_lit (Kd.int .i64) _ 3 ?hg (N := 3) ?hd (xs := ([] : List Int)) (inner := []) (ok := fun _ => True) (okp := fun _ => True) ?hr ?hp (fun _ hk => hk) trivial (Below.refl _ _) (Nat.le_refl _) (by simp) ?_; (case hd => rfl); (case hg => rfl); (case hr => first | (go_simp; done) | (go_simp; rfl)); (case hp => exact (Reps.none _ _)); intro v96002 w3 ho4 hb hg_ hnew_; clear hg_ hnew_; (first | rw [← Ny96001.out] at ho4 | (simp only [Int.reduceToNat] at ho4; rw [← Ny96001.out] at ho4)); have n0_ := Aside0.mk (Kd.R_lower ho4 (below_size (by repeat (first | (with_reducible first | exact HB.out | apply below_alloc | apply pw_below_drewN | apply below_drew1) | exact HB.out)))); have n1_ := Aside0.mk (below_step (by repeat (first | (with_reducible first | exact HB.out | apply below_alloc | apply pw_below_drewN | apply below_drew1) | exact HB.out)) hb); clear HB; have HO96003 := n0_; have HB := n1_; clear n0_ n1_; clear hb ho4) | ((with_reducible refine gate_builtin (b := .append) (xs := #[.tmp 3, .tmp 4]) rfl ?_); at_builtin; refine Kd.R_append_rows (Kd.int .i64) (w0 := w) w.heap.size rfl (.tmp 3) (.tmp 4) 22 3 (.int .i64 0) 8 rfl Try.underlying22 info3 rfl (by decide) (by omega) v96002 y96001 l0 _ _ _ (fun _ => True) (fun _ => False) rfl rfl ?aO ?aR (fun _ _ h => h) (fun _ h => h.elim) ?aF ?aB ?aS ?aL ?_; (case aR => repeat (first | exact (Kd.C_below HR0.out HB.out) | (with_reducible refine Kd.C_alloc ?_ _) | (with_reducible refine Kd.C_drewN ?_ _) | (with_reducible refine Kd.C_drew ?_))); (case aB => exact (by repeat (first | (with_reducible first | exact HB.out | apply below_alloc | apply pw_below_drewN | apply below_drew1) | exact HB.out))); (case aF => exact (fun _ _ => trivial)); (case aO => exact (by (with_reducible repeat (first | apply Kd.R_alloc | apply Kd.R_drewN | apply Kd.R_drew)); exact HO96003.out)); (case aS => exact (below_size (by repeat (first | (with_reducible first | exact HB.out | apply below_alloc | apply pw_below_drewN | apply below_drew1) | exact HB.out)))); (case aL => have := LMc2.out; omega); intro v96005 w5 ho hb hg hat; rw [← Ny96004.out] at ho; have n0_ := Aside0.mk (hb); have n1_ := Aside0.mk (ho); clear HB; clear HO96003; have HB := n0_; have HO96006 := n1_; clear n0_ n1_; clear ho hb hg hat))
  go_ret
  exact ⟨_, by first | rfl | (simp [errW_none, errW_some] <;> rfl) | (simp [*, errW_none, errW_some] <;> rfl), by (with_reducible repeat (first | apply Kd.R_alloc | apply Kd.R_drewN | apply Kd.R_drew)); exact HO96006.out, by repeat (first | (with_reducible first | exact HB.out | apply below_alloc | apply pw_below_drewN | apply below_drew1) | exact HB.out)⟩
 ·rw [if_neg c2] at H
  exact absurd H (by simp)


def spec_pixelAt.f (a0_0 : Int) (a0_1 : Int) (a0_2 : Int) (l0_3 : List Int) (a1 : Int) (a2 : Int) : Option (List Int) := if 0 ≤ (wrap64 ((wrap64 ((wrap64 (a2 * a0_0)) + a1)) * a0_2)) then (if (wrap64 ((wrap64 ((wrap64 (a2 * a0_0)) + a1)) * a0_2)) ≤ (wrap64 ((wrap64 ((wrap64 ((wrap64 (a2 * a0_0)) + a1)) * a0_2)) + a0_2)) then (if (wrap64 ((wrap64 ((wrap64 ((wrap64 (a2 * a0_0)) + a1)) * a0_2)) + a0_2)) ≤ (l0_3.length : Int) then ((spec_copyInts.f ((l0_3.take ((wrap64 ((wrap64 ((wrap64 ((wrap64 (a2 * a0_0)) + a1)) * a0_2)) + a0_2)) : Int).toNat).drop ((wrap64 ((wrap64 ((wrap64 (a2 * a0_0)) + a1)) * a0_2)) : Int).toNat)).bind fun t64003 => (some t64003)) else (none)) else (none)) else (none)
theorem spec_pixelAt.calls (a0_0 : Int) (a0_1 : Int) (a0_2 : Int) (A0_3 : Option Addr) (c0_3 : Nat) (l0_3 : List Int) (a1 : Int) (a2 : Int) (r : List Int) (w : World) (hr0_3 : Kd.C (Kd.int .i64) w A0_3 l0_3.length l0_3) (hc0_3 : l0_3.length ≤ c0_3) (h : spec_pixelAt.f a0_0 a0_1 a0_2 l0_3 a1 a2 = some r) :
  Calls Try.prog 63 #[.agg #[.int .i64 a0_0, .int .i64 a0_1, .int .i64 a0_2, .slice A0_3 l0_3.length c0_3], .int .i64 a1, .int .i64 a2] w fun e w' => ∃ v0_ : Value, e = .returned (v0_) ∧ Kd.R (Kd.int .i64) 3 w' w.heap.size (fun _ => True) v0_ r ∧ Below w.heap.size w w' := by
 have hu28 := Try.underlying28
 have HR0_3 := mk hr0_3
 have HC0_3 := mk hc0_3
 clear hr0_3 hc0_3
 have HB := mk (Below.refl w.heap.size w)
 have H : (if 0 ≤ (wrap64 ((wrap64 ((wrap64 (a2 * a0_0)) + a1)) * a0_2)) then (if (wrap64 ((wrap64 ((wrap64 (a2 * a0_0)) + a1)) * a0_2)) ≤ (wrap64 ((wrap64 ((wrap64 ((wrap64 (a2 * a0_0)) + a1)) * a0_2)) + a0_2)) then (if (wrap64 ((wrap64 ((wrap64 ((wrap64 (a2 * a0_0)) + a1)) * a0_2)) + a0_2)) ≤ (l0_3.length : Int) then ((spec_copyInts.f ((l0_3.take ((wrap64 ((wrap64 ((wrap64 ((wrap64 (a2 * a0_0)) + a1)) * a0_2)) + a0_2)) : Int).toNat).drop ((wrap64 ((wrap64 ((wrap64 (a2 * a0_0)) + a1)) * a0_2)) : Int).toNat)).bind fun t64003 => (some t64003)) else (none)) else (none)) else (none)) = some r := h
 clear h
 obtain ⟨ji4, hji4⟩ : ∃ j_ : Int, (wrap64 ((wrap64 ((wrap64 (a2 * a0_0)) + a1)) * a0_2)) = j_ := ⟨_, rfl⟩
 replace H : (if 0 ≤ (ji4) then (if (ji4) ≤ (wrap64 ((ji4) + a0_2)) then (if (wrap64 ((ji4) + a0_2)) ≤ (l0_3.length : Int) then ((spec_copyInts.f ((l0_3.take ((wrap64 ((ji4) + a0_2)) : Int).toNat).drop ((ji4) : Int).toNat)).bind fun t64003 => (some t64003)) else (none)) else (none)) else (none)) = some r := by first | (rw [hji4] at H; exact H) | (simp only [hji4] at H ⊢; exact H)
 have hji4w : (IntKind.i64.wrap ((wrap64 ((wrap64 (a2 * a0_0)) + a1)) * a0_2)) = ji4 := (i64_w _).trans hji4
 by_cases c5 : 0 ≤ (ji4)
 ·rw [if_pos c5] at H
  have c5b0 := eq_true c5
  have c5b1 : decide (0 ≤ (ji4)) = true := decide_eq_true c5
  clear c5
  by_cases c6 : (ji4) ≤ (wrap64 ((ji4) + a0_2))
  ·rw [if_pos c6] at H
   have c6b0 := eq_true c6
   have c6b1 : decide ((ji4) ≤ (wrap64 ((ji4) + a0_2))) = true := decide_eq_true c6
   by_cases c7 : (wrap64 ((ji4) + a0_2)) ≤ (l0_3.length : Int)
   ·rw [if_pos c7] at H
    have c7b0 := eq_true c7
    have c7b1 : decide ((wrap64 ((ji4) + a0_2)) ≤ (l0_3.length : Int)) = true := decide_eq_true c7
    replace H := Option.bind_eq_some_iff.mp H
    obtain ⟨t64003, A80, H⟩ := H
    replace H : (some t64003) = some r := H
    have A8 := mk A80
    clear A80
    obtain rfl := Option.some.inj H
    go_enter Try.func63, Try.ntmps63
    go_wp2_with (first | ((with_reducible refine gate_dst (N := 3) rfl ?_); refine box_event ?hg (N := 3) ?hd (cs := #[.int .i64 a0_0, .int .i64 a0_1, .int .i64 a0_2, .slice A0_3 l0_3.length c0_3]) (t := 28) ?hr ?_; (case hd => rfl); (case hg => rfl); (case hr => first | (go_simp; done) | (go_simp; rfl)); intro gb64001 hg w9 hbox hb; have n0_ := mk (below_step (by repeat (first | (with_reducible first | exact HB.out | apply below_alloc | apply pw_below_drewN | apply below_drew1) | exact HB.out)) hb); have n1_ := mk (hbox); have n2_ := mk ((by rw [hg]; exact (below_size (by repeat (first | (with_reducible first | exact HB.out | apply below_alloc | apply pw_below_drewN | apply below_drew1) | exact HB.out))) : w.heap.size ≤ gb64001)); have n3_ := mk ((by rw [hg]; exact (below_size (by repeat (first | (with_reducible first | exact HB.out | apply below_alloc | apply pw_below_drewN | apply below_drew1) | exact HB.out))) : w.heap.size ≤ gb64001)); clear HB; have HB := n0_; have BK64001 := n1_; have GW64001 := n2_; have GE64001 := n3_; clear n0_ n1_ n2_ n3_; clear hb hbox hg; have hcz10_0 : w9.cell? ⟨gb64001, 0, none⟩ = some (.int .i64 a0_0) := (blk_cell BK64001.out 0).trans rfl; have hcz10_1 : w9.cell? ⟨gb64001, 1, none⟩ = some (.int .i64 a0_1) := (blk_cell BK64001.out 1).trans rfl; have hcz10_2 : w9.cell? ⟨gb64001, 2, none⟩ = some (.int .i64 a0_2) := (blk_cell BK64001.out 2).trans rfl; have hcz10_3 : w9.cell? ⟨gb64001, 3, none⟩ = some (.slice A0_3 l0_3.length c0_3) := (blk_cell BK64001.out 3).trans rfl; have hfz10_0 := blk_frozen BK64001.out 0; have hfz10_1 := blk_frozen BK64001.out 1; have hfz10_2 := blk_frozen BK64001.out 2; have hfz10_3 := blk_frozen BK64001.out 3; obtain ⟨i011, hi011, _, hsz11, _⟩ := info_parts info3; obtain ⟨A11, hcut11, hA11, hC11⟩ := print_mid_of (P := Try.prog) (Value.int .i64) 0 22 3 .i64 .i64 Try.underlying22 hi011 hsz11 A0_3 c0_3 l0_3 (ji4) (wrap64 ((ji4) + a0_2)) (of_decide_eq_true (by first | (with_reducible assumption) | assumption)) (by first | omega | exact of_decide_eq_true (by first | (with_reducible assumption) | assumption)) (of_decide_eq_true (by first | (with_reducible assumption) | assumption)) HC0_3.out; have HR64002 := mk (Kd.C_of_reads (h1 := fun _ => rfl) (hA11 _ (Kd.reads_of_C HR0_3.out))); have HC64002 := mk hC11; clear hA11 hC11 hi011 hsz11) | ((with_reducible refine gate_callee (f := 95) rfl ?_); refine goesL_ (some 25) rfl rfl Try.func95 (by kernel_rfl) rfl #[.slice A11 ((l0_3.take ((wrap64 ((ji4) + a0_2)) : Int).toNat).drop ((ji4) : Int).toNat).length (c0_3 - (ji4).toNat)] rfl (by (try simp only [List.map_toArray, List.map_cons, List.map_nil]); first | done | (rw [show ((l0_3.take ((wrap64 ((ji4) + a0_2)) : Int).toNat).drop ((ji4) : Int).toNat).length = ((wrap64 ((ji4) + a0_2)).toNat - (ji4).toNat) from (by rw [List.length_drop, List.length_take]; have h_ : ((wrap64 ((ji4) + a0_2)) : Int) ≤ (l0_3.length : Int) := of_decide_eq_true (by first | (with_reducible assumption) | assumption); omega)] <;> rfl) | (simp only [hji4]; rfl) | rfl | (simp only [List.length_drop, List.length_take]; rfl)) ?_; (with_reducible refine (spec_copyInts.calls _ _ ((l0_3.take ((wrap64 ((ji4) + a0_2)) : Int).toNat).drop ((ji4) : Int).toNat) t64003 _ ?side1 ?side2 A8.out).mono ?_); (case side1 => repeat (first | exact (Kd.C_below HR64002.out HB.out) | (with_reducible refine Kd.C_alloc ?_ _) | (with_reducible refine Kd.C_drewN ?_ _) | (with_reducible refine Kd.C_drew ?_))); (case side2 => exact HC64002.out); rintro e w12 ⟨v64004, rfl, ho0, hb⟩; refine ⟨_, rfl, ?_⟩; have n0_ := mk (Kd.R_lower ho0 (below_size (by repeat (first | (with_reducible first | exact HB.out | apply below_alloc | apply pw_below_drewN | apply below_drew1 | refine below_set ?_ GE64001.out) | exact HB.out)))); have n1_ := mk (blk_below (g := gb64001) (o := .cells #[.int .i64 a0_0, .int .i64 a0_1, .int .i64 a0_2, .slice A0_3 l0_3.length c0_3] 28 (0, 0)) (by (with_reducible repeat (first | refine blk_drewN ?_ _ | refine blk_drew ?_ | refine blk_alloc ?_ _)); exact BK64001.out) hb); have n2_ := mk (below_step (by repeat (first | (with_reducible first | exact HB.out | apply below_alloc | apply pw_below_drewN | apply below_drew1 | refine below_set ?_ GE64001.out) | exact HB.out)) hb); clear BK64001; clear HB; have HO64005 := n0_; have BK64001 := n1_; have HB := n2_; clear n0_ n1_ n2_; (try clear hb); (try clear hb2); (try clear hk); (try clear hi); (try clear ho0)))
    go_ret
    exact ⟨_, by first | rfl | (simp [errW_none, errW_some] <;> rfl) | (simp only [← hji4]; first | rfl | (simp [errW_none, errW_some] <;> rfl)) | (simp [*, errW_none, errW_some] <;> rfl), by (with_reducible repeat (first | apply Kd.R_alloc | apply Kd.R_drewN | apply Kd.R_drew)); exact HO64005.out, by repeat (first | (with_reducible first | exact HB.out | apply below_alloc | apply pw_below_drewN | apply below_drew1 | refine below_set ?_ GE64001.out) | exact HB.out)⟩
   ·rw [if_neg c7] at H
    exact absurd H (by simp)
  ·rw [if_neg c6] at H
   exact absurd H (by simp)
 ·rw [if_neg c5] at H
  exact absurd H (by simp)


def spec_equalInts.l0 : Nat → List Int → List Int → Int → Option (Bool)
 | 0, _, _, _ => none
 | k + 1, x0, x1, x5 => if x5 < (x0.length : Int) then (if 0 ≤ x5 then (if x5 < (x1.length : Int) then (if (rd x0 x5) = (rd x1 x5) then (spec_equalInts.l0 k x0 x1 (wrap64 (x5 + 1))) else (some false)) else (none)) else (none)) else (some true)
def spec_equalInts.f (k : Nat) (l0 : List Int) (l1 : List Int) : Option (Bool) := if (l0.length : Int) = (l1.length : Int) then (spec_equalInts.l0 k l0 l1 0) else (some false)
theorem spec_equalInts.calls (k : Nat) (A0 : Option Addr) (c0 : Nat) (l0 : List Int) (A1 : Option Addr) (c1 : Nat) (l1 : List Int) (r : Bool) (w : World) (hr0 : Kd.C (Kd.int .i64) w A0 l0.length l0) (hc0 : l0.length ≤ c0) (hr1 : Kd.C (Kd.int .i64) w A1 l1.length l1) (hc1 : l1.length ≤ c1) (h : spec_equalInts.f k l0 l1 = some r) :
  Calls Try.prog 90 #[.slice A0 l0.length c0, .slice A1 l1.length c1] w fun e w' => e = .returned (.bool r) ∧ Drawn0 w w' := by
 have HR0 := Aside0.mk hr0
 have HC0 := Aside0.mk hc0
 clear hr0 hc0
 have HR1 := Aside0.mk hr1
 have HC1 := Aside0.mk hc1
 clear hr1 hc1
 have H : (if (l0.length : Int) = (l1.length : Int) then (spec_equalInts.l0 k l0 l1 0) else (some false)) = some r := h
 clear h
 by_cases c3 : (l0.length : Int) = (l1.length : Int)
 ·rw [if_pos c3] at H
  have c3b0 : ((l0.length : Int) == (l1.length : Int)) = true := beq_iff_eq.mpr c3
  have c3b1 : ((l0.length : Int) != (l1.length : Int)) = false := bne_eq_false_iff_eq.mpr c3
  have c3b2 : (l0.length == l1.length) = true := by first | simpa using c3 | (simp at c3 ⊢; omega)
  clear c3
  have H' := Aside0.mk H
  clear H
  go_enter Try.func90, Try.ntmps90
  go_wp2
  repeat (go_quiet (fail); try go_wp2)
  go_loopg [5] k (fun kq v5 w' => ∃ (x5_1 : Int), v5 = .int .i64 x5_1 ∧ Aside0 (spec_equalInts.l0 kq l0 l1 x5_1 = some r) ∧ Aside0 (kq ≤ k) ∧ Drawn0 w w')
  case atStart => exact ⟨(0), (by first | rfl | (simp; done) | (simp [*]; done)), H', ⟨Nat.le_refl _⟩, by repeat (first | exact Drawn0.refl _ | apply Drawn0.step)⟩
  case round =>
   clear H'
   try clear c1
   try clear p2
   try clear c3
   try clear c3b0
   try clear c3b1
   try clear c3b2
   obtain ⟨x5_1, rfl, HA, HK1, ⟨m1, rfl⟩⟩ := hrel
   cases gk with
   | zero => exact absurd HA.out (by simp [spec_equalInts.l0])
   | succ k1 =>
    have H := HA.out
    clear HA
    simp only [spec_equalInts.l0] at H
    by_cases c4 : x5_1 < (l0.length : Int)
    ·rw [if_pos c4] at H
     have c4b0 : decide (x5_1 < (l0.length : Int)) = true := decide_eq_true c4
     clear c4
     by_cases c5 : 0 ≤ x5_1
     ·rw [if_pos c5] at H
      have c5b0 : decide (0 ≤ x5_1) = true := decide_eq_true c5
      clear c5
      by_cases c6 : x5_1 < (l1.length : Int)
      ·rw [if_pos c6] at H
       have c6b0 : decide (x5_1 < (l1.length : Int)) = true := decide_eq_true c6
       clear c6
       by_cases c7 : (rd l0 x5_1) = (rd l1 x5_1)
       ·rw [if_pos c7] at H
        have c7b0 : ((rd l0 x5_1) == (rd l1 x5_1)) = true := beq_iff_eq.mpr c7
        have c7b1 : ((rd l0 x5_1) != (rd l1 x5_1)) = false := bne_eq_false_iff_eq.mpr c7
        clear c7
        have H' := Aside0.mk H
        clear H
        have p91001 : 0 ≤ (x5_1 : Int) := of_decide_eq_true (by first | (with_reducible assumption) | assumption)
        have q91001 : x5_1 < (l0.length : Int) := of_decide_eq_true (by first | (with_reducible assumption) | assumption)
        obtain ⟨ad91001, e91001, hx91001_0⟩ := Kd.at_int HR0.out x5_1 p91001 q91001
        cases e91001
        replace p91001 := eq_true p91001
        replace q91001 := eq_true q91001
        have p91002 : 0 ≤ (x5_1 : Int) := of_decide_eq_true (by first | (with_reducible assumption) | assumption)
        have q91002 : x5_1 < (l1.length : Int) := of_decide_eq_true (by first | (with_reducible assumption) | assumption)
        obtain ⟨ad91002, e91002, hx91002_0⟩ := Kd.at_int HR1.out x5_1 p91002 q91002
        cases e91002
        replace p91002 := eq_true p91002
        replace q91002 := eq_true q91002
        go_wp2
        repeat (go_quiet (fail); try go_wp2)
        go_roundg k1
        case measure => have := HK1.out; omega
        case rel => exact ⟨(wrap64 (x5_1 + 1)), (by first | rfl | (simp; done) | (simp [*]; done)), H', ⟨by have := HK1.out; omega⟩, by repeat (first | exact Drawn0.refl _ | apply Drawn0.step)⟩
       ·rw [if_neg c7] at H
        have c7b0 : ((rd l0 x5_1) == (rd l1 x5_1)) = false := beq_eq_false_iff_ne.mpr c7
        have c7b1 : ((rd l0 x5_1) != (rd l1 x5_1)) = true := bne_iff_ne.mpr c7
        obtain rfl := Option.some.inj H
        have p91001 : 0 ≤ (x5_1 : Int) := of_decide_eq_true (by first | (with_reducible assumption) | assumption)
        have q91001 : x5_1 < (l0.length : Int) := of_decide_eq_true (by first | (with_reducible assumption) | assumption)
        obtain ⟨ad91001, e91001, hx91001_0⟩ := Kd.at_int HR0.out x5_1 p91001 q91001
        cases e91001
        replace p91001 := eq_true p91001
        replace q91001 := eq_true q91001
        have p91002 : 0 ≤ (x5_1 : Int) := of_decide_eq_true (by first | (with_reducible assumption) | assumption)
        have q91002 : x5_1 < (l1.length : Int) := of_decide_eq_true (by first | (with_reducible assumption) | assumption)
        obtain ⟨ad91002, e91002, hx91002_0⟩ := Kd.at_int HR1.out x5_1 p91002 q91002
        cases e91002
        replace p91002 := eq_true p91002
        replace q91002 := eq_true q91002
        go_wp2
        repeat (go_quiet (fail); try go_wp2)
        go_ret
        exact ⟨by first | rfl | (simp; done) | (simp [*]; done), by repeat (first | exact Drawn0.refl _ | apply Drawn0.step)⟩
      ·rw [if_neg c6] at H
       exact absurd H (by simp)
     ·rw [if_neg c5] at H
      exact absurd H (by simp)
    ·rw [if_neg c4] at H
     have c4b0 : decide (x5_1 < (l0.length : Int)) = false := decide_eq_false c4
     clear c4
     obtain rfl := Option.some.inj H
     go_wp2
     repeat (go_quiet (fail); try go_wp2)
     go_ret
     exact ⟨by first | rfl | (simp; done) | (simp [*]; done), by repeat (first | exact Drawn0.refl _ | apply Drawn0.step)⟩
 ·rw [if_neg c3] at H
  have c3b0 : ((l0.length : Int) == (l1.length : Int)) = false := beq_eq_false_iff_ne.mpr c3
  have c3b1 : ((l0.length : Int) != (l1.length : Int)) = true := bne_iff_ne.mpr c3
  have c3b2 : (l0.length == l1.length) = false := by first | simpa using c3 | (simp at c3 ⊢; omega)
  obtain rfl := Option.some.inj H
  go_enter Try.func90, Try.ntmps90
  go_wp2
  repeat (go_quiet (fail); try go_wp2)
  go_ret
  exact ⟨by first | rfl | (simp; done) | (simp [*]; done), by repeat (first | exact Drawn0.refl _ | apply Drawn0.step)⟩


mutual
def spec_changed.l0 : Nat → List Bool → Int → Int → Int → Int → List Int → Int → Int → Int → List Int → Option ((List S47))
 | 0, _, _, _, _, _, _, _, _, _, _ => none
 | k + 1, x5, x6, xz0, xz1, xz2, xz3, xz4, xz5, xz6, xz7 => if x6 < xz1 then (spec_changed.l1 k x5 x6 0 xz0 xz1 xz2 xz3 xz4 xz5 xz6 xz7) else ((spec_runsOf.f k x5).bind fun tz3 => (some tz3))
def spec_changed.l1 : Nat → List Bool → Int → Int → Int → Int → Int → List Int → Int → Int → Int → List Int → Option ((List S47))
 | 0, _, _, _, _, _, _, _, _, _, _, _ => none
 | k + 1, x5, x6, x7, xz0, xz1, xz2, xz3, xz4, xz5, xz6, xz7 => if x7 < xz0 then ((spec_pixelAt.f xz0 xz1 xz2 xz3 x7 x6).bind fun tz2 => ((spec_pixelAt.f xz4 xz5 xz6 xz7 x7 x6).bind fun tz1 => ((spec_equalInts.f k tz2 tz1).bind fun tz0 => (if 0 ≤ (wrap64 ((wrap64 (x6 * 16)) + x7)) then (if (wrap64 ((wrap64 (x6 * 16)) + x7)) < (x5.length : Int) then (spec_changed.l1 k (x5.set ((wrap64 ((wrap64 (x6 * 16)) + x7)) : Int).toNat (!tz0)) x6 (wrap64 (x7 + 1)) xz0 xz1 xz2 xz3 xz4 xz5 xz6 xz7) else none) else none)))) else (spec_changed.l0 k x5 (wrap64 (x6 + 1)) xz0 xz1 xz2 xz3 xz4 xz5 xz6 xz7)
end
def spec_changed.f (k : Nat) (a0_0 : Int) (a0_1 : Int) (a0_2 : Int) (l0_3 : List Int) (a1_0 : Int) (a1_1 : Int) (a1_2 : Int) (l1_3 : List Int) : Option ((List S47)) := if 256 ≤ 281474976710656 then (spec_changed.l0 k (List.replicate 256 false) 0 a0_0 a0_1 a0_2 l0_3 a1_0 a1_1 a1_2 l1_3) else (none)
def spec_changed.T8 : Bool × List (List Nat × List Nat) := (true, [([], []), ([], []), ([1], [1]), ([], []), ([2, 3], [2, 3]), ([], []), ([], []), ([], []), ([5, 6, 7], [5, 6, 7]), ([], []), ([], []), ([], []), ([9, 10, 11, 8], [9, 10, 11]), ([8, 12, 12], [8, 12]), ([13], [13]), ([0, 4, 0, 1, 2, 3, 4, 5, 6, 7, 8, 9, 10, 11, 12, 13, 14], [0, 4]), ([15, 14, 13, 0, 1, 2, 3, 4, 5, 6, 7, 8, 9, 10, 11, 12, 13, 14], [14, 15])])
def spec_changed.B8 : List Nat := [0, 0, 2, 0, 14, 0, 0, 0, 224, 0, 0, 0, 4064, 8160, 16352, 32767, 65535]
theorem spec_changed.tab8 : rtab .any (opsOf Try.f46 8) = spec_changed.T8 := by kernel_rfl
theorem spec_changed.bits8 : waitsOk spec_changed.T8.2 spec_changed.B8 = true := by kernel_rfl
theorem spec_changed.calls (k : Nat) (a0_0 : Int) (a0_1 : Int) (a0_2 : Int) (A0_3 : Option Addr) (c0_3 : Nat) (l0_3 : List Int) (a1_0 : Int) (a1_1 : Int) (a1_2 : Int) (A1_3 : Option Addr) (c1_3 : Nat) (l1_3 : List Int) (r : List S47) (w : World) (hr0_3 : Kd.C (Kd.int .i64) w A0_3 l0_3.length l0_3) (hc0_3 : l0_3.length ≤ c0_3) (hr1_3 : Kd.C (Kd.int .i64) w A1_3 l1_3.length l1_3) (hc1_3 : l1_3.length ≤ c1_3) (h : spec_changed.f k a0_0 a0_1 a0_2 l0_3 a1_0 a1_1 a1_2 l1_3 = some r) :
  Calls Try.prog 46 #[.agg #[.int .i64 a0_0, .int .i64 a0_1, .int .i64 a0_2, .slice A0_3 l0_3.length c0_3], .agg #[.int .i64 a1_0, .int .i64 a1_1, .int .i64 a1_2, .slice A1_3 l1_3.length c1_3]] w fun e w' => ∃ v0_ : Value, e = .returned v0_ ∧ Kd.R k47 47 w' w.heap.size (fun _ => True) v0_ r ∧ Below w.heap.size w w' := by
 have HR0_3 := mk hr0_3
 have HC0_3 := mk hc0_3
 clear hr0_3 hc0_3
 have HR1_3 := mk hr1_3
 have HC1_3 := mk hc1_3
 clear hr1_3 hc1_3
 have HB := mk (Below.refl w.heap.size w)
 have H : (if 256 ≤ 281474976710656 then (spec_changed.l0 k (List.replicate 256 false) 0 a0_0 a0_1 a0_2 l0_3 a1_0 a1_1 a1_2 l1_3) else none) = some r := h
 clear h
 by_cases c3 : 256 ≤ 281474976710656
 ·rw [if_pos c3] at H
  have c3b0 := eq_true c3
  have c3b1 : decide (256 ≤ 281474976710656) = true := decide_eq_true c3
  clear c3
  obtain ⟨yz0, hyz0⟩ : ∃ y_ : List Bool, y_ = (List.replicate 256 false) := ⟨_, rfl⟩
  replace H : (spec_changed.l0 k yz0 0 a0_0 a0_1 a0_2 l0_3 a1_0 a1_1 a1_2 l1_3) = some r := by (rw [hyz0]; with_reducible exact H)
  have Nyz0 := mk hyz0
  clear hyz0
  have H' := mk H
  clear H
  go_enter Try.func46, Try.ntmps46
  go_wp2_with (first | ((with_reducible refine gate_dst (N := 2) rfl ?_); refine box_event (by rfl) (N := 2) (by rfl) (cs := #[.int .i64 a0_0, .int .i64 a0_1, .int .i64 a0_2, .slice A0_3 l0_3.length c0_3]) (t := 28) (by go_simp; done) ?_; intro gbz0 hg w4 hbox hb; replace HB := mk (below_step HB.out hb); have BKz0 := mk (hbox); clear hb hbox hg) | ((with_reducible refine gate_dst (N := 3) rfl ?_); refine box_event (by rfl) (N := 3) (by rfl) (cs := #[.int .i64 a1_0, .int .i64 a1_1, .int .i64 a1_2, .slice A1_3 l1_3.length c1_3]) (t := 28) (by go_simp; done) ?_; intro gbz1 hg w5 hbox hb; replace BKz0 := mk (blk_below BKz0.out hb); replace HB := mk (below_step HB.out hb); have BKz1 := mk (hbox); clear hb hbox hg) | ((with_reducible refine gate_dst (N := 8) rfl ?_); refine Kd.R_make Kd.bool _ 4 rfl (N := 8) rfl 81 _ _ rfl 256 rfl rfl Try.underlying81 (.bool false) 1 info4 rfl (by decide) (by omega) false (ok := fun _ => True) (okp := fun _ => True) rfl (fun _ hk => hk) trivial (by omega) (by omega) (Below.refl _ _) (Nat.le_refl _) ?_; intro vz0 w6 ho7 hb hg_ hnew_; clear hg_ hnew_; (simp only [Int.reduceToNat] at ho7; rw [← Nyz0.out] at ho7); have HOz2 := mk (Kd.R_lower ho7 (below_size HB.out)); replace BKz0 := mk (blk_below BKz0.out hb); replace BKz1 := mk (blk_below BKz1.out hb); replace HB := mk (below_step HB.out hb); clear hb ho7))
  go_loopg [6] k (fun kq v6 w' => ∃ (x5_1 : List Bool) (x6_1 : Int), v6 = .int .i64 x6_1 ∧ Aside0 (spec_changed.l0 kq x5_1 x6_1 a0_0 a0_1 a0_2 l0_3 a1_0 a1_1 a1_2 l1_3 = some r) ∧ Aside0 (kq ≤ k) ∧ Aside0 (Kd.R Kd.bool 4 w' w.heap.size (fun _ => True) vz0 x5_1) ∧ Aside0 (w'.heap[gbz0]? = some (.cells #[.int .i64 a0_0, .int .i64 a0_1, .int .i64 a0_2, (.slice A0_3 l0_3.length c0_3)] 28 (0, 0))) ∧ Aside0 (w'.heap[gbz1]? = some (.cells #[.int .i64 a1_0, .int .i64 a1_1, .int .i64 a1_2, (.slice A1_3 l1_3.length c1_3)] 28 (0, 0))) ∧ Aside0 (Below w.heap.size w w'))
  case atStart => exact ⟨(yz0), (0), (by rfl), H', ⟨Nat.le_refl _⟩, HOz2, BKz0, BKz1, HB⟩
  case round =>
   clear H'
   obtain ⟨x5_1, x6_1, rfl, HA, HK1, HO_5, BKz0, BKz1, HB⟩ := hrel
   cases gk with
   | zero => exact absurd HA.out (by simp [spec_changed.l0])
   | succ k1 =>
    have H := HA.out
    clear HA
    simp only [spec_changed.l0] at H
    by_cases c8 : x6_1 < a0_1
    ·rw [if_pos c8] at H
     have c8b0 : decide (x6_1 < a0_1) = true := decide_eq_true c8
     clear c8
     have H' := mk H
     clear H
     obtain ⟨hcz10_0, hcz10_1, hcz10_2, hcz10_3, hfz10_0, hfz10_1, hfz10_2, hfz10_3⟩ := c4 BKz0.out
     go_wp2
     go_loopg [7] k1 (fun kq v7 w' => ∃ (x5_2 : List Bool) (x7_2 : Int), v7 = .int .i64 x7_2 ∧ Aside0 (spec_changed.l1 kq x5_2 x6_1 x7_2 a0_0 a0_1 a0_2 l0_3 a1_0 a1_1 a1_2 l1_3 = some r) ∧ Aside0 (kq ≤ k1) ∧ Aside0 (Kd.R Kd.bool 4 w' w.heap.size (fun _ => True) vz0 x5_2) ∧ Aside0 (w'.heap[gbz0]? = some (.cells #[.int .i64 a0_0, .int .i64 a0_1, .int .i64 a0_2, (.slice A0_3 l0_3.length c0_3)] 28 (0, 0))) ∧ Aside0 (w'.heap[gbz1]? = some (.cells #[.int .i64 a1_0, .int .i64 a1_1, .int .i64 a1_2, (.slice A1_3 l1_3.length c1_3)] 28 (0, 0))) ∧ Aside0 (Below w.heap.size w w'))
     case atStart => exact ⟨(x5_1), (0), (by rfl), H', ⟨Nat.le_refl _⟩, HO_5, BKz0, BKz1, HB⟩
     case round =>
      clear H'
      obtain ⟨x5_2, x7_2, rfl, HA, HK2, HO_5, BKz0, BKz1, HB⟩ := hrel
      cases gk with
      | zero => exact absurd HA.out (by simp [spec_changed.l1])
      | succ k2 =>
       have H := HA.out
       clear HA
       simp only [spec_changed.l1] at H
       by_cases c11 : x7_2 < a0_0
       ·rw [if_pos c11] at H
        have c11b0 : decide (x7_2 < a0_0) = true := decide_eq_true c11
        clear c11
        replace H := Option.bind_eq_some_iff.mp H
        obtain ⟨tz2, A120, H⟩ := H
        replace H : ((spec_pixelAt.f a1_0 a1_1 a1_2 l1_3 x7_2 x6_1).bind fun tz1 => ((spec_equalInts.f k2 tz2 tz1).bind fun tz0 => (if 0 ≤ (wrap64 ((wrap64 (x6_1 * 16)) + x7_2)) then (if (wrap64 ((wrap64 (x6_1 * 16)) + x7_2)) < (x5_2.length : Int) then (spec_changed.l1 k2 (x5_2.set ((wrap64 ((wrap64 (x6_1 * 16)) + x7_2)) : Int).toNat (!tz0)) x6_1 (wrap64 (x7_2 + 1)) a0_0 a0_1 a0_2 l0_3 a1_0 a1_1 a1_2 l1_3) else none) else none))) = some r := H
        have A12 := mk A120
        clear A120
        replace H := Option.bind_eq_some_iff.mp H
        obtain ⟨tz1, A130, H⟩ := H
        replace H : ((spec_equalInts.f k2 tz2 tz1).bind fun tz0 => (if 0 ≤ (wrap64 ((wrap64 (x6_1 * 16)) + x7_2)) then (if (wrap64 ((wrap64 (x6_1 * 16)) + x7_2)) < (x5_2.length : Int) then (spec_changed.l1 k2 (x5_2.set ((wrap64 ((wrap64 (x6_1 * 16)) + x7_2)) : Int).toNat (!tz0)) x6_1 (wrap64 (x7_2 + 1)) a0_0 a0_1 a0_2 l0_3 a1_0 a1_1 a1_2 l1_3) else none) else none)) = some r := H
        have A13 := mk A130
        clear A130
        replace H := Option.bind_eq_some_iff.mp H
        obtain ⟨tz0, A140, H⟩ := H
        replace H : (if 0 ≤ (wrap64 ((wrap64 (x6_1 * 16)) + x7_2)) then (if (wrap64 ((wrap64 (x6_1 * 16)) + x7_2)) < (x5_2.length : Int) then (spec_changed.l1 k2 (x5_2.set ((wrap64 ((wrap64 (x6_1 * 16)) + x7_2)) : Int).toNat (!tz0)) x6_1 (wrap64 (x7_2 + 1)) a0_0 a0_1 a0_2 l0_3 a1_0 a1_1 a1_2 l1_3) else none) else none) = some r := H
        have A14 := mk A140
        clear A140
        obtain ⟨ji15, hji15⟩ : ∃ j_ : Int, (wrap64 ((wrap64 (x6_1 * 16)) + x7_2)) = j_ := ⟨_, rfl⟩
        replace H : (if 0 ≤ ji15 then (if ji15 < (x5_2.length : Int) then (spec_changed.l1 k2 (x5_2.set (ji15 : Int).toNat (!tz0)) x6_1 (wrap64 (x7_2 + 1)) a0_0 a0_1 a0_2 l0_3 a1_0 a1_1 a1_2 l1_3) else none) else none) = some r := by (rw [hji15] at H; exact H)
        have hji15w : (IntKind.i64.wrap ((wrap64 (x6_1 * 16)) + x7_2)) = ji15 := (i64_w _).trans hji15
        by_cases c16 : 0 ≤ (ji15)
        ·rw [if_pos c16] at H
         have c16b0 : decide (0 ≤ ji15) = true := decide_eq_true c16
         clear c16
         by_cases c17 : ji15 < (x5_2.length : Int)
         ·rw [if_pos c17] at H
          have c17b0 : decide (ji15 < (x5_2.length : Int)) = true := decide_eq_true c17
          clear c17
          obtain ⟨yz1, hyz1⟩ : ∃ y_ : List Bool, y_ = (x5_2.set (ji15 : Int).toNat (!tz0)) := ⟨_, rfl⟩
          replace H : (spec_changed.l1 k2 yz1 x6_1 (wrap64 (x7_2 + 1)) a0_0 a0_1 a0_2 l0_3 a1_0 a1_1 a1_2 l1_3) = some r := by (rw [hyz1]; with_reducible exact H)
          have Nyz1 := mk hyz1
          clear hyz1
          have H' := mk H
          clear H
          have hcz20_0 : wr.cell? ⟨gbz0, 0, none⟩ = some (.int .i64 a0_0) := (blk_cell BKz0.out 0).trans rfl
          try go_wp2
          replace HO_5 := mk (Kd.R_drew HO_5.out)
          replace BKz0 := mk (blk_drew BKz0.out)
          replace BKz1 := mk (blk_drew BKz1.out)
          replace HB := mk (below_drew1 HB.out)
          refine start_ (n := 17) (S := fun w' => w'.cell? ⟨gbz0, 0, none⟩ = some (.int .i64 a0_0) ∧ w'.cell? ⟨gbz0, 1, none⟩ = some (.int .i64 a0_1) ∧ w'.cell? ⟨gbz0, 2, none⟩ = some (.int .i64 a0_2) ∧ w'.cell? ⟨gbz0, 3, none⟩ = some (.slice A0_3 l0_3.length c0_3) ∧ w'.cell? ⟨gbz1, 0, none⟩ = some (.int .i64 a1_0) ∧ w'.cell? ⟨gbz1, 1, none⟩ = some (.int .i64 a1_1) ∧ w'.cell? ⟨gbz1, 2, none⟩ = some (.int .i64 a1_2) ∧ w'.cell? ⟨gbz1, 3, none⟩ = some (.slice A1_3 l1_3.length c1_3)) (ds := [16]) #[false, false, false, false, false, false, false, false, false, false, false, false, false, false, false, false, false] (by kernel_rfl) rfl rfl ⟨blk_cell BKz0.out 0, blk_cell BKz0.out 1, blk_cell BKz0.out 2, blk_cell BKz0.out 3, blk_cell BKz1.out 0, blk_cell BKz1.out 1, blk_cell BKz1.out 2, blk_cell BKz1.out 3⟩ (fun hHeld => ?_); refine with_tabW spec_changed.tab8 spec_changed.bits8 (fun HT_ HW_ => ?_)
          generalize wr.drew = w21 at HO_5 BKz0 BKz1 HB hHeld ⊢
          refine pu 0 21 ?_ ?_ rfl rfl (any_of HT_.out (by kernel_rfl)) (Or.inl ⟨by rfl, ?_⟩) ?_ ?_
          rotate_left 2
          ·intro w'
           go_simp
           with_reducible rfl
          ·simp only [seval]
           rfl
          refine pu 1 22 ?_ ?_ rfl rfl (any_of HT_.out (by kernel_rfl)) (Or.inl ⟨by rfl, ?_⟩) ?_ ?_
          rotate_left 2
          ·intro w'
           go_simp
           with_reducible rfl
          ·simp only [seval]
           rfl
          refine pu 2 23 ?_ ?_ rfl rfl (any_of HT_.out (by kernel_rfl)) (Or.inl ⟨by rfl, ?_⟩) ?_ ?_
          rotate_left 2
          ·intro w'
           go_simp
           with_reducible rfl
          ·simp only [seval]
           rfl
          refine pu 3 24 ?_ ?_ rfl rfl (any_of HT_.out (by kernel_rfl)) (Or.inl ⟨by rfl, ?_⟩) ?_ ?_
          rotate_left 2
          ·intro w'
           go_simp
           with_reducible rfl
          ·simp only [seval]
           rfl
          refine pu 4 25 ?_ ?_ rfl rfl (any_of HT_.out (by kernel_rfl)) (Or.inl ⟨by rfl, ?_⟩) ?_ ?_
          rotate_left 2
          ·intro w'
           go_simp
           with_reducible rfl
          ·simp only [seval]
           rfl
          refine pu 6 27 ?_ ?_ rfl rfl (any_of HT_.out (by kernel_rfl)) (Or.inl ⟨by rfl, ?_⟩) ?_ ?_
          rotate_left 2
          ·intro w'
           go_simp
           with_reducible rfl
          ·simp only [seval]
           rfl
          refine pu 7 28 ?_ ?_ rfl rfl (any_of HT_.out (by kernel_rfl)) (Or.inl ⟨by rfl, ?_⟩) ?_ ?_
          rotate_left 2
          ·intro w'
           go_simp
           with_reducible rfl
          ·simp only [seval]
           rfl
          refine pu 10 31 ?_ ?_ rfl rfl (any_of HT_.out (by kernel_rfl)) (Or.inl ⟨by rfl, ?_⟩) ?_ ?_
          rotate_left 2
          ·intro w'
           go_simp
           with_reducible rfl
          ·simp only [seval]
           rfl
          refine pu 11 32 ?_ ?_ rfl rfl (any_of HT_.out (by kernel_rfl)) (Or.inl ⟨by rfl, ?_⟩) ?_ ?_
          rotate_left 2
          ·intro w'
           go_simp
           with_reducible rfl
          ·simp only [seval]
           rfl
          refine tk 5 26 ?_ ?_ rfl rfl (take_ofW HT_.out HW_.out (by kernel_rfl)) (Or.inl ⟨by rfl, ?_⟩) hHeld ?_ ?_
          rotate_left 2
          ·rintro w' ⟨s0, s1, s2, s3, s4, s5, s6, s7⟩
           go_simp
           with_reducible rfl
          ·simp only [seval]
           rfl
          refine tk 9 30 ?_ ?_ rfl rfl (take_ofW HT_.out HW_.out (by kernel_rfl)) (Or.inl ⟨by rfl, ?_⟩) hHeld ?_ ?_
          rotate_left 2
          ·rintro w' ⟨s0, s1, s2, s3, s4, s5, s6, s7⟩
           go_simp
           with_reducible rfl
          ·simp only [seval]
           rfl
          refine one_ (i := 8) (N := some 29) #[true, true, true, true, true, true, true, true, true, true, true, true, false, false, false, false, false] rfl rfl (one_of HT_.out (by kernel_rfl)) (by decide) (fun K hK => ?_)
          refine goes_ Try.func63 (by kernel_rfl) rfl #[.agg #[.int .i64 a0_0, .int .i64 a0_1, .int .i64 a0_2, .slice A0_3 l0_3.length c0_3], .int .i64 x7_2, .int .i64 x6_1] (by rfl) rfl rfl (by (try simp only [bitvec_to_nat]); rfl) ?_
          with_reducible refine (spec_pixelAt.calls a0_0 a0_1 a0_2 _ _ l0_3 x7_2 x6_1 tz2 _ ?side1 ?side2 A12.out).mono ?_
          (case side1 => repeat (exact (Kd.C_below HR0_3.out HB.out)))
          (case side2 => exact HC0_3.out)
          rintro e w22 ⟨vz1, rfl, ho0, hb⟩
          refine ⟨_, rfl, ?_⟩
          replace HO_5 := mk (Kd.R_below HO_5.out hb)
          have HOz0 := mk (Kd.R_lower ho0 (below_size HB.out))
          replace BKz0 := mk (blk_below BKz0.out hb)
          replace BKz1 := mk (blk_below BKz1.out hb)
          replace HB := mk (below_step HB.out hb)
          (try clear hb)
          (try clear ho0)
          refine hK.out _ _ ⟨blk_cell BKz0.out 0, blk_cell BKz0.out 1, blk_cell BKz0.out 2, blk_cell BKz0.out 3, blk_cell BKz1.out 0, blk_cell BKz1.out 1, blk_cell BKz1.out 2, blk_cell BKz1.out 3⟩ (fun hHeld => ?_)
          clear hK K
          refine norm_ (a' := ?_) ?_ ?_
          rotate_left
          ·show Act.put _ (some 29) _ = _
           simp only [seval]
           rfl
          refine one_ (i := 12) (N := some 33) #[true, true, true, true, true, true, true, true, true, true, true, true, true, false, false, false, false] rfl rfl (one_of HT_.out (by kernel_rfl)) (by decide) (fun K hK => ?_)
          refine goes_ Try.func63 (by kernel_rfl) rfl #[.agg #[.int .i64 a1_0, .int .i64 a1_1, .int .i64 a1_2, .slice A1_3 l1_3.length c1_3], .int .i64 x7_2, .int .i64 x6_1] (by rfl) rfl rfl (by (try simp only [bitvec_to_nat]); rfl) ?_
          with_reducible refine (spec_pixelAt.calls a1_0 a1_1 a1_2 _ _ l1_3 x7_2 x6_1 tz1 _ ?side1 ?side2 A13.out).mono ?_
          (case side1 => repeat (exact (Kd.C_below HR1_3.out HB.out)))
          (case side2 => exact HC1_3.out)
          rintro e w23 ⟨vz2, rfl, ho0, hb⟩
          refine ⟨_, rfl, ?_⟩
          replace HO_5 := mk (Kd.R_below HO_5.out hb)
          have HOz1 := mk (Kd.R_lower (Kd.R_new' ho0 (Kd.R_lt HOz0.out)) (below_size HB.out))
          replace HOz0 := mk (Kd.R_elder' HOz0.out (Kd.R_base ho0) hb)
          replace BKz0 := mk (blk_below BKz0.out hb)
          replace BKz1 := mk (blk_below BKz1.out hb)
          replace HB := mk (below_step HB.out hb)
          (try clear hb)
          (try clear ho0)
          obtain ⟨Ao24, co24, eo24⟩ := Kd.R_slice HOz0.out
          (subst eo24)
          obtain ⟨Ao25, co25, eo25⟩ := Kd.R_slice HOz1.out
          (subst eo25)
          refine hK.out _ _ ⟨blk_cell BKz0.out 0, blk_cell BKz0.out 1, blk_cell BKz0.out 2, blk_cell BKz0.out 3, blk_cell BKz1.out 0, blk_cell BKz1.out 1, blk_cell BKz1.out 2, blk_cell BKz1.out 3⟩ (fun hHeld => ?_)
          clear hK K
          refine norm_ (a' := ?_) ?_ ?_
          rotate_left
          ·show Act.put _ (some 33) _ = _
           simp only [seval]
           rfl
          refine one_ (i := 13) (N := some 34) #[true, true, true, true, true, true, true, true, true, true, true, true, true, true, false, false, false] rfl rfl (one_of HT_.out (by kernel_rfl)) (by decide) (fun K hK => ?_)
          refine goes_ Try.func90 (by kernel_rfl) rfl #[.slice Ao24 tz2.length co24, .slice Ao25 tz1.length co25] (by rfl) rfl rfl (by (try simp only [bitvec_to_nat]); rfl) ?_
          with_reducible refine (spec_equalInts.calls k2 _ _ tz2 _ _ tz1 tz0 _ ?side1 ?side2 ?side3 ?side4 A14.out).mono ?_
          (case side1 => repeat (exact (Kd.R_reads' HOz0.out).2.2))
          (case side2 => exact (Kd.R_reads' HOz0.out).2.1)
          (case side3 => repeat (exact (Kd.R_reads' HOz1.out).2.2))
          (case side4 => exact (Kd.R_reads' HOz1.out).2.1)
          rintro e w' ⟨rfl, ⟨nd, rfl⟩⟩
          refine ⟨_, rfl, ?_⟩
          have p18 : 0 ≤ (ji15 : Int) := of_decide_eq_true (by (with_reducible assumption))
          have q18 : (ji15 : Int) < ((x5_2.length : Int) : Int) := of_decide_eq_true (by (with_reducible assumption))
          obtain ⟨go18, co18, eo18, gb18, gl18, cl18, HG18⟩ := Kd.R_form HO_5.out (by omega)
          (cases eo18)
          have GB18 := mk gb18
          clear gb18 gl18 HG18
          obtain ⟨hx18_0, hf18_0⟩ := Kd.R_celln false HO_5.out (ji15 : Int) p18 q18
          replace p18 := eq_true p18
          replace q18 := eq_true q18
          have HP26 := Kd.R_putn HO_5.out (ji15 : Int) (!tz0)
          rw [← Nyz1.out] at HP26
          have HQ26 := mk HP26
          clear HP26
          refine hK.out _ _ ⟨blk_cell BKz0.out 0, blk_cell BKz0.out 1, blk_cell BKz0.out 2, blk_cell BKz0.out 3, blk_cell BKz1.out 0, blk_cell BKz1.out 1, blk_cell BKz1.out 2, blk_cell BKz1.out 3⟩ (fun hHeld => ?_)
          clear hK K
          refine norm_ (a' := ?_) ?_ ?_
          rotate_left
          ·show Act.put _ (some 34) _ = _
           simp only [seval]
           rfl
          refine pu 14 35 ?_ ?_ rfl rfl (any_of HT_.out (by kernel_rfl)) (Or.inl ⟨by rfl, ?_⟩) ?_ ?_
          rotate_left 2
          ·intro w'
           go_simp
           with_reducible rfl
          ·simp only [seval]
           rfl
          refine pu 15 36 ?_ ?_ rfl rfl (any_of HT_.out (by kernel_rfl)) (Or.inl ⟨by rfl, ?_⟩) ?_ ?_
          rotate_left 2
          ·intro w'
           go_simp
           with_reducible rfl
          ·simp only [seval]
           rfl
          refine last_ (i := 16) (N := none) #[true, true, true, true, true, true, true, true, true, true, true, true, true, true, true, true, true] rfl rfl (one_of HT_.out (by kernel_rfl)) (by decide) (fun K hK => ?_)
          refine skip_ (w1 := ?_) (by rfl) rfl ?_ ?_
          rotate_left
          ·go_simp
           rfl
          refine hK.out _ _ ?_
          clear hK K
          refine done_ (done_of HT_.out (by kernel_rfl)) ?_
          try go_wp2
          go_roundg k2
          case measure => have := HK1.out; have := HK2.out; omega
          case rel => exact ⟨(yz1), (wrap64 (x7_2 + 1)), (by rfl), H', ⟨by have := HK1.out; have := HK2.out; omega⟩, HQ26, ⟨by refine blk_far ?_ (by have h_ := Kd.R_ne HO_5.out BKz0.out (by decide); intro e_; exact h_ (by rw [e_]; rfl)) _; (with_reducible repeat (refine blk_drewN ?_ _)); exact BKz0.out⟩, ⟨by refine blk_far ?_ (by have h_ := Kd.R_ne HO_5.out BKz1.out (by decide); intro e_; exact h_ (by rw [e_]; rfl)) _; (with_reducible repeat (refine blk_drewN ?_ _)); exact BKz1.out⟩, ⟨by repeat (with_reducible first | exact HB.out | apply pw_below_drewN | refine below_set ?_ GB18.out)⟩⟩
         rw [if_neg c17] at H
         exact absurd H (by simp)
        rw [if_neg c16] at H
        exact absurd H (by simp)
       rw [if_neg c11] at H
       have c11b0 : decide (x7_2 < a0_0) = false := decide_eq_false c11
       clear c11
       have H' := mk H
       clear H
       have hcz28_0 : wr.cell? ⟨gbz0, 0, none⟩ = some (.int .i64 a0_0) := (blk_cell BKz0.out 0).trans rfl
       go_wp2
       go_roundg k2
       case measure => have := HK1.out; have := HK2.out; omega
       case rel => exact ⟨(x5_2), (wrap64 (x6_1 + 1)), (by rfl), H', ⟨by have := HK1.out; have := HK2.out; omega⟩, HO_5, BKz0, BKz1, HB⟩
    rw [if_neg c8] at H
    have c8b0 : decide (x6_1 < a0_1) = false := decide_eq_false c8
    clear c8
    replace H := Option.bind_eq_some_iff.mp H
    obtain ⟨tz3, A290, H⟩ := H
    replace H : (some tz3) = some r := H
    have A29 := mk A290
    clear A290
    obtain rfl := Option.some.inj H
    have hcz31_1 : wr.cell? ⟨gbz0, 1, none⟩ = some (.int .i64 a0_1) := (blk_cell BKz0.out 1).trans rfl
    obtain ⟨Ao32, co32, eo32⟩ := Kd.R_slice HO_5.out
    subst eo32
    go_wp2_with (first | ((with_reducible refine gate_callee (f := 65) rfl ?_); refine goesL_ (some 38) rfl rfl Try.func65 (by kernel_rfl) rfl #[.slice Ao32 x5_1.length co32] rfl (by (try simp only [bitvec_to_nat]); rfl) ?_; (with_reducible refine (spec_runsOf.calls k1 _ _ x5_1 tz3 _ ?side1 ?side2 A29.out).mono ?_); (case side1 => repeat (exact (Kd.R_reads' HO_5.out).2.2)); (case side2 => exact (Kd.R_reads' HO_5.out).2.1); rintro e w33 ⟨vz3, rfl, ho0, hb⟩; refine ⟨_, rfl, ?_⟩; have n1_ := mk (Kd.R_lower ho0 (below_size HB.out)); have n4_ := mk (below_step HB.out hb); clear HO_5; clear BKz0; clear BKz1; clear HB; have HOz3 := n1_; have HB := n4_; (try clear hb); (try clear ho0)))
    go_ret
    exact ⟨_, by rfl, by exact HOz3.out, by exact HB.out⟩
 rw [if_neg c3] at H
 exact absurd H (by simp)

end Go.Proofs.Ytbgohbinonkhfaa.Q
