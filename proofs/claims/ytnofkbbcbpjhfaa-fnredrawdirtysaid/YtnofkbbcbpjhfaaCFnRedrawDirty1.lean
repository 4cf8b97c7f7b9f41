/- A part of the proof that the statement FnRedrawDirtySaid holds, under no condition of its own: Only dirty tiles need to be redrawn: the law FnRedrawDirty over lists of numbers alone. -/
import Derived.Test.YtnofkbbcbpjhfaaProg
import Derived.Below
import Derived.Deep.Draws
import Derived.Deep.AppendLies
import Derived.Maps.AppendAt
import Derived.OwnWalk
import Derived.Laws.BytesArg
import Derived.Laws.MakeOwn
import Derived.Laws.OwnMore
import Derived.Deep.OwnRows
import Derived.Tactics
import Derived.Lib.ConvBytes
import Derived.Laws.Slices
import Derived.WalkKit
import Derived.KernelRfl
import Derived.RowKit3
import Derived.Deep.LoopGhost
import Derived.Deep.QuietTactic
import Derived.BigQuiet
import Derived.WideLaws
import Derived.Deep.DeepCutAuto
import Derived.Deep.CutBlock
import Derived.Deep.RegionHeld3
import Derived.Laws.Rows
import Derived.Lib.AppendStr
import Derived.ArgAppend
import Derived.Laws.IdiomCopy
import Derived.OrdersHeld
import Derived.Laws.BitsLemmas
import Derived.RowKit
import Derived.Test.YtnofkbbcbpjhfaaCFnRedrawDirtyW1
import Derived.Shelf.Abstract
namespace Go.Proofs.Ytnofkbbcbpjhfaa.Q
open Go.RowKit Go.Proofs.YtnofkbbcbpjhfaaW.PrintWords Go.Proofs.YtnofkbbcbpjhfaaW.PrintLast Go.Proofs.YtnofkbbcbpjhfaaW.PrintMore
attribute [local go_sem] max2_int min2_int max_two min_two max_three min_three max_four min_four
set_option linter.unusedVariables false
set_option linter.unusedSimpArgs false
def errW : Option Int → Value
  | none => .nilIface
  | some c => .iface 0 (.int .i64 c)
theorem errW_none : errW none = .nilIface := rfl
theorem errW_some (c : Int) : errW (some c) = .iface 0 (.int .i64 c) := rfl
theorem info3 : (Try.prog.info? 3).map (fun i => (i.zero, i.size, i.bytes)) = some (some (.int .i64 0), 1, 8) := by kernel_rfl
theorem info5 : (Try.prog.info? 5).map (fun i => (i.zero, i.size, i.bytes)) = some (some (.int .u8 0), 1, 1) := by kernel_rfl
theorem info47 : (Try.prog.info? 47).map (fun i => (i.zero, i.size, i.bytes)) = some (some (.agg #[(.int .i64 0), (.int .i64 0), (.int .i64 0), (.int .i64 0)]), 4, 32) := by kernel_rfl
theorem info55 : (Try.prog.info? 55).map (fun i => (i.zero, i.size, i.bytes)) = some (some (.agg #[(.int .i64 0), (.int .i64 0), (.int .i64 0), (.slice none 0 0), (.int .i64 0), (.int .i64 0), (.int .i64 0), (.int .i64 0), (.bool false)]), 9, 88) := by kernel_rfl
structure S7 where
  f0 : Int
  f1 : Int
  f2 : Bool
  f3 : Int
structure S8 where
  f0 : Int
  f1 : Int
  f2 : Bool
  f3 : Int
structure S13 where
  f0 : ByteArray
  f1 : Int
structure S14 where
  f0 : ByteArray
  f1 : Int
structure S23 where
  f0 : Int
  f1 : Int
  f2 : Int
  f3 : (List Int)
structure S24 where
  f0 : Int
  f1 : Int
  f2 : Int
  f3 : (List Int)
structure S27 where
  f0 : Int
  f1 : Int
  f2 : Int
  f3 : (List Int)
def z27 : S27 := ⟨(0 : Int), (0 : Int), (0 : Int), ([] : List Int)⟩
def k27 : Kd S27 := Kd.iso (Kd.pair (Kd.int .i64) (Kd.pair (Kd.int .i64) (Kd.pair (Kd.int .i64) (Kd.slice 3 (Kd.int .i64))))) (fun x : S27 => (x.f0, x.f1, x.f2, x.f3))
theorem k27_open {w : World} {x : S27} {cs : List Value} (h : k27.K w x cs) : ∃ A3 c3, cs = [.int .i64 x.f0, .int .i64 x.f1, .int .i64 x.f2, .slice A3 x.f3.length c3] ∧ x.f3.length ≤ c3 ∧ (Kd.int .i64).C w A3 x.f3.length x.f3 := by
  obtain ⟨_, _, rfl, rfl, ⟨_, _, rfl, rfl, ⟨_, _, rfl, rfl, ⟨A3, c3, rfl, l3, g3⟩⟩⟩⟩ := h
  exact ⟨A3, c3, rfl, l3, g3⟩
theorem k27_mk (w : World) (x : S27) {A3 : Option Addr} {c3 : Nat} (l3 : x.f3.length ≤ c3) (g3 : (Kd.int .i64).C w A3 x.f3.length x.f3) : k27.K w x [.int .i64 x.f0, .int .i64 x.f1, .int .i64 x.f2, .slice A3 x.f3.length c3] := ⟨[.int .i64 x.f0], [.int .i64 x.f1, .int .i64 x.f2, .slice A3 x.f3.length c3], rfl, rfl, ⟨[.int .i64 x.f1], [.int .i64 x.f2, .slice A3 x.f3.length c3], rfl, rfl, ⟨[.int .i64 x.f2], [.slice A3 x.f3.length c3], rfl, rfl, ⟨A3, c3, rfl, l3, g3⟩⟩⟩⟩
structure S47 where
  f0 : Int
  f1 : Int
  f2 : Int
  f3 : Int
def z47 : S47 := ⟨(0 : Int), (0 : Int), (0 : Int), (0 : Int)⟩
def k47 : Kd S47 := Kd.iso (Kd.pair (Kd.int .i64) (Kd.pair (Kd.int .i64) (Kd.pair (Kd.int .i64) (Kd.int .i64)))) (fun x : S47 => (x.f0, x.f1, x.f2, x.f3))
theorem k47_open {w : World} {x : S47} {cs : List Value} (h : k47.K w x cs) : cs = [.int .i64 x.f0, .int .i64 x.f1, .int .i64 x.f2, .int .i64 x.f3] := by
  obtain ⟨_, _, rfl, rfl, ⟨_, _, rfl, rfl, ⟨_, _, rfl, rfl, rfl⟩⟩⟩ := h
  exact rfl
theorem k47_mkM (w : World) (base : Nat) (ok : Nat → Prop) (x : S47)  : k47.M w base ok x [.int .i64 x.f0, .int .i64 x.f1, .int .i64 x.f2, .int .i64 x.f3] := ⟨[.int .i64 x.f0], [.int .i64 x.f1, .int .i64 x.f2, .int .i64 x.f3], rfl, rfl, ⟨[.int .i64 x.f1], [.int .i64 x.f2, .int .i64 x.f3], rfl, rfl, ⟨[.int .i64 x.f2], [.int .i64 x.f3], rfl, rfl, rfl⟩⟩⟩
def rd_T47 (xs : List S47) (i : Int) : S47 := xs.getD i.toNat z47
theorem at_T47 {w : World} {A : Option Addr} {n : Nat} {xs : List S47} (h : Kd.C k47 w A n xs) (i : Int) (h0 : 0 ≤ i) (h1 : i < n) : ∃ ad , A = some ad ∧ w.cell? (ad.add (i.toNat * 4)) = some (.int .i64 (rd_T47 xs i).f0) ∧ w.cell? ⟨(ad.add (i.toNat * 4)).block, (ad.add (i.toNat * 4)).off + 1, none⟩ = some (.int .i64 (rd_T47 xs i).f1) ∧ w.cell? ⟨(ad.add (i.toNat * 4)).block, (ad.add (i.toNat * 4)).off + 2, none⟩ = some (.int .i64 (rd_T47 xs i).f2) ∧ w.cell? ⟨(ad.add (i.toNat * 4)).block, (ad.add (i.toNat * 4)).off + 3, none⟩ = some (.int .i64 (rd_T47 xs i).f3) := by
  obtain ⟨ad, c, e, _, hK, hc0⟩ := Kd.C_get h z47 i h0 h1
  have hc : ∀ j u, c[j]? = some u → w.cell? (ad.add (i.toNat * 4 + j)) = some u := hc0
  obtain rfl := k47_open hK
  exact ⟨ad, e, hc 0 _ rfl, by rw [← add_field _ _ 1 (by omega)]; exact hc 1 _ rfl, by rw [← add_field _ _ 2 (by omega)]; exact hc 2 _ rfl, by rw [← add_field _ _ 3 (by omega)]; exact hc 3 _ rfl⟩

structure S118 where
  f0 : Int
  f1 : Int
  f2 : Int
structure S46 where
  f0 : Int
  f1 : Int
  f2 : Int
  f3 : Int
structure S50 where
  f0 : S24
  f1 : Int
  f2 : Int
  f3 : Int
  f4 : Int
  f5 : Bool
structure S51 where
  f0 : S24
  f1 : Int
  f2 : Int
  f3 : Int
  f4 : Int
  f5 : Bool
structure S54 where
  f0 : S27
  f1 : Int
  f2 : Int
  f3 : Int
  f4 : Int
  f5 : Bool
structure S55 where
  f0 : S27
  f1 : Int
  f2 : Int
  f3 : Int
  f4 : Int
  f5 : Bool
def z55 : S55 := ⟨z27, (0 : Int), (0 : Int), (0 : Int), (0 : Int), false⟩
def k55 : Kd S55 := Kd.iso (Kd.pair k27 (Kd.pair (Kd.int .i64) (Kd.pair (Kd.int .i64) (Kd.pair (Kd.int .i64) (Kd.pair (Kd.int .i64) Kd.bool))))) (fun x : S55 => (x.f0, x.f1, x.f2, x.f3, x.f4, x.f5))
theorem k55_open {w : World} {x : S55} {cs : List Value} (h : k55.K w x cs) : ∃ A3 c3, cs = [.int .i64 x.f0.f0, .int .i64 x.f0.f1, .int .i64 x.f0.f2, .slice A3 x.f0.f3.length c3, .int .i64 x.f1, .int .i64 x.f2, .int .i64 x.f3, .int .i64 x.f4, .bool x.f5] ∧ x.f0.f3.length ≤ c3 ∧ (Kd.int .i64).C w A3 x.f0.f3.length x.f0.f3 := by
  obtain ⟨_, _, rfl, s0, ⟨_, _, rfl, rfl, ⟨_, _, rfl, rfl, ⟨_, _, rfl, rfl, ⟨_, _, rfl, rfl, rfl⟩⟩⟩⟩⟩ := h
  obtain ⟨A3, c3, rfl, l3, g3⟩ := k27_open s0
  exact ⟨A3, c3, rfl, l3, g3⟩
theorem k55_mk (w : World) (x : S55) {A3 : Option Addr} {c3 : Nat} (l3 : x.f0.f3.length ≤ c3) (g3 : (Kd.int .i64).C w A3 x.f0.f3.length x.f0.f3) : k55.K w x [.int .i64 x.f0.f0, .int .i64 x.f0.f1, .int .i64 x.f0.f2, .slice A3 x.f0.f3.length c3, .int .i64 x.f1, .int .i64 x.f2, .int .i64 x.f3, .int .i64 x.f4, .bool x.f5] := ⟨[.int .i64 x.f0.f0, .int .i64 x.f0.f1, .int .i64 x.f0.f2, .slice A3 x.f0.f3.length c3], [.int .i64 x.f1, .int .i64 x.f2, .int .i64 x.f3, .int .i64 x.f4, .bool x.f5], rfl, (k27_mk w x.f0 l3 g3), ⟨[.int .i64 x.f1], [.int .i64 x.f2, .int .i64 x.f3, .int .i64 x.f4, .bool x.f5], rfl, rfl, ⟨[.int .i64 x.f2], [.int .i64 x.f3, .int .i64 x.f4, .bool x.f5], rfl, rfl, ⟨[.int .i64 x.f3], [.int .i64 x.f4, .bool x.f5], rfl, rfl, ⟨[.int .i64 x.f4], [.bool x.f5], rfl, rfl, rfl⟩⟩⟩⟩⟩
theorem k55_openF {W : World} {ok : Nat → Prop} {x : S55} {cs : List Value} (h : Kd.FK k55 W ok x cs) : ∃ A3 c3, cs = [.int .i64 x.f0.f0, .int .i64 x.f0.f1, .int .i64 x.f0.f2, .slice A3 x.f0.f3.length c3, .int .i64 x.f1, .int .i64 x.f2, .int .i64 x.f3, .int .i64 x.f4, .bool x.f5] ∧ x.f0.f3.length ≤ c3 ∧ Kd.F (Kd.int .i64) W ok A3 x.f0.f3.length x.f0.f3 := by
  obtain ⟨A3, c3, rfl, l3, _⟩ := k55_open (Kd.FK_now h)
  exact ⟨A3, c3, rfl, l3, (fun W' hW => by obtain ⟨A3_, c3_, he, l3_, g3_⟩ := k55_open (h W' hW); injection (Option.some.inj (show some (Value.slice A3 x.f0.f3.length c3) = some (Value.slice A3_ x.f0.f3.length c3_) from congrArg (fun l => l[3]?) he)) with ha_ _ _; rw [ha_]; exact g3_)⟩
theorem k55_mkF (W : World) (ok : Nat → Prop) (x : S55) {A3 : Option Addr} {c3 : Nat} (l3 : x.f0.f3.length ≤ c3) (g3 : Kd.F (Kd.int .i64) W ok A3 x.f0.f3.length x.f0.f3) : Kd.FK k55 W ok x [.int .i64 x.f0.f0, .int .i64 x.f0.f1, .int .i64 x.f0.f2, .slice A3 x.f0.f3.length c3, .int .i64 x.f1, .int .i64 x.f2, .int .i64 x.f3, .int .i64 x.f4, .bool x.f5] := fun W2 hW => k55_mk W2 x l3 (g3 W2 hW)
def rd_T55 (xs : List S55) (i : Int) : S55 := xs.getD i.toNat z55
theorem at_T55 {w : World} {A : Option Addr} {n : Nat} {xs : List S55} (h : Kd.C k55 w A n xs) (i : Int) (h0 : 0 ≤ i) (h1 : i < n) : ∃ ad A3 c3, A = some ad ∧ w.cell? (ad.add (i.toNat * 9)) = some (.int .i64 (rd_T55 xs i).f0.f0) ∧ w.cell? ⟨(ad.add (i.toNat * 9)).block, (ad.add (i.toNat * 9)).off + 1, none⟩ = some (.int .i64 (rd_T55 xs i).f0.f1) ∧ w.cell? ⟨(ad.add (i.toNat * 9)).block, (ad.add (i.toNat * 9)).off + 2, none⟩ = some (.int .i64 (rd_T55 xs i).f0.f2) ∧ w.cell? ⟨(ad.add (i.toNat * 9)).block, (ad.add (i.toNat * 9)).off + 3, none⟩ = some (.slice A3 (rd_T55 xs i).f0.f3.length c3) ∧ w.cell? ⟨(ad.add (i.toNat * 9)).block, (ad.add (i.toNat * 9)).off + 4, none⟩ = some (.int .i64 (rd_T55 xs i).f1) ∧ w.cell? ⟨(ad.add (i.toNat * 9)).block, (ad.add (i.toNat * 9)).off + 5, none⟩ = some (.int .i64 (rd_T55 xs i).f2) ∧ w.cell? ⟨(ad.add (i.toNat * 9)).block, (ad.add (i.toNat * 9)).off + 6, none⟩ = some (.int .i64 (rd_T55 xs i).f3) ∧ w.cell? ⟨(ad.add (i.toNat * 9)).block, (ad.add (i.toNat * 9)).off + 7, none⟩ = some (.int .i64 (rd_T55 xs i).f4) ∧ w.cell? ⟨(ad.add (i.toNat * 9)).block, (ad.add (i.toNat * 9)).off + 8, none⟩ = some (.bool (rd_T55 xs i).f5) ∧ (rd_T55 xs i).f0.f3.length ≤ c3 ∧ (Kd.int .i64).C w A3 (rd_T55 xs i).f0.f3.length (rd_T55 xs i).f0.f3 := by
  obtain ⟨ad, c, e, _, hK, hc0⟩ := Kd.C_get h z55 i h0 h1
  have hc : ∀ j u, c[j]? = some u → w.cell? (ad.add (i.toNat * 9 + j)) = some u := hc0
  obtain ⟨A3, c3, rfl, l3, g3⟩ := k55_open hK
  exact ⟨ad, A3, c3, e, hc 0 _ rfl, by rw [← add_field _ _ 1 (by omega)]; exact hc 1 _ rfl, by rw [← add_field _ _ 2 (by omega)]; exact hc 2 _ rfl, by rw [← add_field _ _ 3 (by omega)]; exact hc 3 _ rfl, by rw [← add_field _ _ 4 (by omega)]; exact hc 4 _ rfl, by rw [← add_field _ _ 5 (by omega)]; exact hc 5 _ rfl, by rw [← add_field _ _ 6 (by omega)]; exact hc 6 _ rfl, by rw [← add_field _ _ 7 (by omega)]; exact hc 7 _ rfl, by rw [← add_field _ _ 8 (by omega)]; exact hc 8 _ rfl, l3, g3⟩

structure S137 where
  f0 : Int
  f1 : Int
  f2 : Int
  f3 : Int
structure S117 where
  f0 : Int
  f1 : Int
  f2 : Int
structure S143 where
  f0 : (List Int)
  f1 : Int
structure S144 where
  f0 : (List Int)
  f1 : Int

def laws_equalInts.l0 : Nat → List Int → List Int → Int → Option (Bool)
 | 0, _, _, _ => none
 | k + 1, x0, x1, x5 => if x5 < (x0.length : Int) then (if 0 ≤ x5 then (if x5 < (x1.length : Int) then (if (rd x0 x5) = (rd x1 x5) then (laws_equalInts.l0 k x0 x1 (wrap64 (x5 + 1))) else (some false)) else none) else none) else (some true)
def laws_equalInts.f (k : Nat) (l0 : List Int) (l1 : List Int) : Option Bool := if (l0.length : Int) = (l1.length : Int) then (laws_equalInts.l0 k l0 l1 0) else (some false)
theorem laws_equalInts.mono_l : ∀ k, (∀ y0 y1 y2, LeO (laws_equalInts.l0 k y0 y1 y2) (laws_equalInts.l0 (k + 1) y0 y1 y2))
 | 0 => fun _ _ _ r h => by simp [laws_equalInts.l0] at h
 | k + 1 => by
  have ih0 := laws_equalInts.mono_l k
  ·intro y0 y1 y2
   unfold laws_equalInts.l0
   repeat' first | (with_reducible exact ih0 _ _ _) | (with_reducible exact LeO.refl _) | (with_reducible refine LeO.ite ?_ ?_)
theorem laws_equalInts.mono : ∀ a0 a1 k, LeO (laws_equalInts.f k a0 a1) (laws_equalInts.f (k + 1) a0 a1) := by
 intro a0 a1 k
 have ih0 := laws_equalInts.mono_l k
 unfold laws_equalInts.f
 repeat' first | (with_reducible exact ih0 _ _ _) | (with_reducible exact LeO.refl _) | (with_reducible refine LeO.ite ?_ ?_)
set_option maxHeartbeats 8000000 in
set_option maxRecDepth 100000 in
theorem laws_equalInts.calls (k : Nat) (A0 : Option Addr) (c0 : Nat) (l0 : List Int) (A1 : Option Addr) (c1 : Nat) (l1 : List Int) (r : Bool) (w : World) (hr0 : Kd.C (Kd.int .i64) w A0 l0.length l0) (hc0 : l0.length ≤ c0) (hr1 : Kd.C (Kd.int .i64) w A1 l1.length l1) (hc1 : l1.length ≤ c1) (h : laws_equalInts.f k l0 l1 = some r) :
  Calls Try.prog 50 #[.slice A0 l0.length c0, .slice A1 l1.length c1] w fun e w' => e = .returned (.bool r) ∧ Drawn0 w w' := by
 have HR0 := Aside0.mk hr0
 have HC0 := Aside0.mk hc0
 clear hr0 hc0
 have HR1 := Aside0.mk hr1
 have HC1 := Aside0.mk hc1
 clear hr1 hc1
 have H : (if (l0.length : Int) = (l1.length : Int) then (laws_equalInts.l0 k l0 l1 0) else (some false)) = some r := h
 clear h
 by_cases c3 : (l0.length : Int) = (l1.length : Int)
 ·rw [if_pos c3] at H
  have c3b0 : ((l0.length : Int) == (l1.length : Int)) = true := beq_iff_eq.mpr c3
  have c3b1 : ((l0.length : Int) != (l1.length : Int)) = false := bne_eq_false_iff_eq.mpr c3
  have c3b2 : (l0.length == l1.length) = true := by (simp at c3 ⊢; omega)
  clear c3
  have H' := Aside0.mk H
  clear H
  go_enter Try.func50, Try.ntmps50
  go_wp2
  repeat (go_quiet (fail); try go_wp2)
  go_loopg [5] k (fun kq v5 w' => ∃ (x5_1 : Int), v5 = .int .i64 x5_1 ∧ Aside0 (laws_equalInts.l0 kq l0 l1 x5_1 = some r) ∧ Aside0 (kq ≤ k) ∧ Drawn0 w w')
  case atStart => exact ⟨(0), (by rfl), H', ⟨Nat.le_refl _⟩, by repeat (exact Drawn0.refl _)⟩
  case round =>
   clear H'
   obtain ⟨x5_1, rfl, HA, HK1, ⟨m1, rfl⟩⟩ := hrel
   cases gk with
   | zero => exact absurd HA.out (by simp [laws_equalInts.l0])
   | succ k1 =>
    have H := HA.out
    clear HA
    simp only [laws_equalInts.l0] at H
    by_cases c4 : x5_1 < (l0.length : Int)
    ·rw [if_pos c4] at H
     have c4b0 : decide (x5_1 < (l0.length : Int)) = true := decide_eq_true c4
     clear c4
     by_cases c5 : 0 ≤ x5_1
     ·rw [if_pos c5] at H
      have c5b0 : decide (0 ≤ x5_1) = true := decide_eq_true c5
      clear c5
      by_cases c6 : x5_1 < (l1.length : Int)
      ·rw [if_pos c6] at H
       have c6b0 : decide (x5_1 < (l1.length : Int)) = true := decide_eq_true c6
       clear c6
       by_cases c7 : (rd l0 x5_1) = (rd l1 x5_1)
       ·rw [if_pos c7] at H
        have c7b0 : ((rd l0 x5_1) == (rd l1 x5_1)) = true := beq_iff_eq.mpr c7
        have c7b1 : ((rd l0 x5_1) != (rd l1 x5_1)) = false := bne_eq_false_iff_eq.mpr c7
        clear c7
        have H' := Aside0.mk H
        clear H
        have p51001 : 0 ≤ (x5_1 : Int) := of_decide_eq_true (by (with_reducible assumption))
        have q51001 : x5_1 < (l0.length : Int) := of_decide_eq_true (by (with_reducible assumption))
        obtain ⟨ad51001, e51001, hx51001_0⟩ := Kd.at_int HR0.out x5_1 p51001 q51001
        cases e51001
        replace p51001 := eq_true p51001
        replace q51001 := eq_true q51001
        have p51002 : 0 ≤ (x5_1 : Int) := of_decide_eq_true (by (with_reducible assumption))
        have q51002 : x5_1 < (l1.length : Int) := of_decide_eq_true (by (with_reducible assumption))
        obtain ⟨ad51002, e51002, hx51002_0⟩ := Kd.at_int HR1.out x5_1 p51002 q51002
        cases e51002
        replace p51002 := eq_true p51002
        replace q51002 := eq_true q51002
        go_wp2
        repeat (go_quiet (fail); try go_wp2)
        go_roundg k1
        case measure => have := HK1.out; omega
        case rel => exact ⟨(wrap64 (x5_1 + 1)), (by rfl), H', ⟨by have := HK1.out; omega⟩, by repeat (first | exact Drawn0.refl _ | apply Drawn0.step)⟩
       rw [if_neg c7] at H
       have c7b0 : ((rd l0 x5_1) == (rd l1 x5_1)) = false := beq_eq_false_iff_ne.mpr c7
       have c7b1 : ((rd l0 x5_1) != (rd l1 x5_1)) = true := bne_iff_ne.mpr c7
       obtain rfl := Option.some.inj H
       have p51001 : 0 ≤ (x5_1 : Int) := of_decide_eq_true (by (with_reducible assumption))
       have q51001 : x5_1 < (l0.length : Int) := of_decide_eq_true (by (with_reducible assumption))
       obtain ⟨ad51001, e51001, hx51001_0⟩ := Kd.at_int HR0.out x5_1 p51001 q51001
       cases e51001
       replace p51001 := eq_true p51001
       replace q51001 := eq_true q51001
       have p51002 : 0 ≤ (x5_1 : Int) := of_decide_eq_true (by (with_reducible assumption))
       have q51002 : x5_1 < (l1.length : Int) := of_decide_eq_true (by (with_reducible assumption))
       obtain ⟨ad51002, e51002, hx51002_0⟩ := Kd.at_int HR1.out x5_1 p51002 q51002
       cases e51002
       replace p51002 := eq_true p51002
       replace q51002 := eq_true q51002
       go_wp2
       repeat (go_quiet (fail); try go_wp2)
       go_ret
       exact ⟨by rfl, by repeat (first | exact Drawn0.refl _ | apply Drawn0.step)⟩
      rw [if_neg c6] at H
      exact absurd H (by simp)
     rw [if_neg c5] at H
     exact absurd H (by simp)
    rw [if_neg c4] at H
    have c4b0 : decide (x5_1 < (l0.length : Int)) = false := decide_eq_false c4
    clear c4
    obtain rfl := Option.some.inj H
    go_wp2
    repeat (go_quiet (fail); try go_wp2)
    go_ret
    exact ⟨by rfl, by repeat (first | exact Drawn0.refl _ | apply Drawn0.step)⟩
 rw [if_neg c3] at H
 have c3b0 : ((l0.length : Int) == (l1.length : Int)) = false := beq_eq_false_iff_ne.mpr c3
 have c3b1 : ((l0.length : Int) != (l1.length : Int)) = true := bne_iff_ne.mpr c3
 have c3b2 : (l0.length == l1.length) = false := by (simp at c3 ⊢; omega)
 obtain rfl := Option.some.inj H
 go_enter Try.func50, Try.ntmps50
 go_wp2
 repeat (go_quiet (fail); try go_wp2)
 go_ret
 exact ⟨by rfl, by repeat (exact Drawn0.refl _)⟩

end Go.Proofs.Ytnofkbbcbpjhfaa.Q

namespace Go.Proofs.Ytnofkbbcbpjhfaa.Q
open Go.RowKit Go.Proofs.YtnofkbbcbpjhfaaW.PrintWords Go.Proofs.YtnofkbbcbpjhfaaW.PrintLast Go.Proofs.YtnofkbbcbpjhfaaW.PrintMore
open Go.Proofs.YtnofkbbcbpjhfaaW.PrintWords.Aside0 (mk)
attribute [local go_sem] max2_int min2_int max_two min_two max_three min_three max_four min_four
set_option linter.unusedVariables false
set_option linter.unusedSimpArgs false
def laws_equalImage.f (k : Nat) (a0_0 : Int) (a0_1 : Int) (a0_2 : Int) (l0_3 : List Int) (a1_0 : Int) (a1_1 : Int) (a1_2 : Int) (l1_3 : List Int) : Option Bool := if a0_0 = a1_0 then (if a0_1 = a1_1 then (if a0_2 = a1_2 then ((laws_equalInts.f k l0_3 l1_3).bind fun t27003 => (some t27003)) else (some false)) else (some false)) else (some false)
theorem laws_equalImage.mono : ∀ a0 a1 a2 a3 a4 a5 a6 a7 k, LeO (laws_equalImage.f k a0 a1 a2 a3 a4 a5 a6 a7) (laws_equalImage.f (k + 1) a0 a1 a2 a3 a4 a5 a6 a7) := by
 intro a0 a1 a2 a3 a4 a5 a6 a7 k
 unfold laws_equalImage.f
 repeat' first | (with_reducible exact laws_equalInts.mono _ _ _) | (with_reducible exact LeO.refl _) | (with_reducible refine LeO.ite ?_ ?_) | (with_reducible refine LeO.bind ?_ (fun _ => ?_))
set_option maxHeartbeats 8000000 in
set_option maxRecDepth 100000 in
theorem laws_equalImage.calls (k : Nat) (a0_0 : Int) (a0_1 : Int) (a0_2 : Int) (A0_3 : Option Addr) (c0_3 : Nat) (l0_3 : List Int) (a1_0 : Int) (a1_1 : Int) (a1_2 : Int) (A1_3 : Option Addr) (c1_3 : Nat) (l1_3 : List Int) (r : Bool) (w : World) (hr0_3 : Kd.C (Kd.int .i64) w A0_3 l0_3.length l0_3) (hc0_3 : l0_3.length ≤ c0_3) (hr1_3 : Kd.C (Kd.int .i64) w A1_3 l1_3.length l1_3) (hc1_3 : l1_3.length ≤ c1_3) (h : laws_equalImage.f k a0_0 a0_1 a0_2 l0_3 a1_0 a1_1 a1_2 l1_3 = some r) :
  Calls Try.prog 26 #[.agg #[.int .i64 a0_0, .int .i64 a0_1, .int .i64 a0_2, .slice A0_3 l0_3.length c0_3], .agg #[.int .i64 a1_0, .int .i64 a1_1, .int .i64 a1_2, .slice A1_3 l1_3.length c1_3]] w fun e w' => e = .returned (.bool r) ∧ Below w.heap.size w w' := by
 have hu27 := Try.underlying27
 have HR0_3 := mk hr0_3
 have HC0_3 := mk hc0_3
 clear hr0_3 hc0_3
 have HR1_3 := mk hr1_3
 have HC1_3 := mk hc1_3
 clear hr1_3 hc1_3
 have HB := mk (Below.refl w.heap.size w)
 have H : (if a0_0 = a1_0 then (if a0_1 = a1_1 then (if a0_2 = a1_2 then ((laws_equalInts.f k l0_3 l1_3).bind fun t27003 => (some t27003)) else (some false)) else (some false)) else (some false)) = some r := h
 clear h
 by_cases c3 : a0_0 = a1_0
 ·rw [if_pos c3] at H
  have c3b0 : (a0_0 == a1_0) = true := beq_iff_eq.mpr c3
  have c3b1 : (a0_0 != a1_0) = false := bne_eq_false_iff_eq.mpr c3
  clear c3
  by_cases c4 : a0_1 = a1_1
  ·rw [if_pos c4] at H
   have c4b0 : (a0_1 == a1_1) = true := beq_iff_eq.mpr c4
   have c4b1 : (a0_1 != a1_1) = false := bne_eq_false_iff_eq.mpr c4
   clear c4
   by_cases c5 : a0_2 = a1_2
   ·rw [if_pos c5] at H
    have c5b0 : (a0_2 == a1_2) = true := beq_iff_eq.mpr c5
    have c5b1 : (a0_2 != a1_2) = false := bne_eq_false_iff_eq.mpr c5
    clear c5
    replace H := Option.bind_eq_some_iff.mp H
    obtain ⟨t27003, A60, H⟩ := H
    replace H : (some t27003) = some r := H
    have A6 := mk A60
    clear A60
    obtain rfl := Option.some.inj H
    go_enter Try.func26, Try.ntmps26
    go_wp2_with (first | ((with_reducible refine gate_dst (N := 2) rfl ?_); refine box_event ?hg (N := 2) ?hd (cs := #[.int .i64 a0_0, .int .i64 a0_1, .int .i64 a0_2, .slice A0_3 l0_3.length c0_3]) (t := 27) ?hr ?_; (case hd => rfl); (case hg => rfl); (case hr => (go_simp; done)); intro gb27001 hg w7 hbox hb; have n0_ := mk (below_step HB.out hb); have n1_ := mk (hbox); have n2_ := mk ((by rw [hg]; exact (below_size HB.out) : w.heap.size ≤ gb27001)); have n3_ := mk ((by rw [hg]; exact (below_size HB.out) : w.heap.size ≤ gb27001)); clear HB; have HB := n0_; have BK27001 := n1_; have GW27001 := n2_; have GE27001 := n3_; clear n0_ n1_ n2_ n3_; clear hb hbox hg) | ((with_reducible refine gate_dst (N := 3) rfl ?_); refine box_event ?hg (N := 3) ?hd (cs := #[.int .i64 a1_0, .int .i64 a1_1, .int .i64 a1_2, .slice A1_3 l1_3.length c1_3]) (t := 27) ?hr ?_; (case hd => rfl); (case hg => rfl); (case hr => (go_simp; done)); intro gb27002 hg w8 hbox hb; have n0_ := mk (blk_below BK27001.out hb); have n1_ := mk (below_step HB.out hb); have n2_ := mk (hbox); have n3_ := mk ((by rw [hg]; exact (below_size HB.out) : w.heap.size ≤ gb27002)); have n4_ := mk ((by rw [hg]; exact (below_size HB.out) : w.heap.size ≤ gb27002)); have n5_ := mk ((by rw [hg]; exact Nat.ne_of_lt (blk_lt BK27001.out) : gb27001 ≠ gb27002)); have n6_ := mk ((by rw [hg]; exact Nat.ne_of_gt (blk_lt BK27001.out) : gb27002 ≠ gb27001)); clear BK27001; clear HB; have BK27001 := n0_; have HB := n1_; have BK27002 := n2_; have GW27002 := n3_; have GE27002 := n4_; have NB27001_27002 := n5_; have NB27002_27001 := n6_; clear n0_ n1_ n2_ n3_ n4_ n5_ n6_; clear hb hbox hg; have hnb9 := NB27001_27002.out; have hnc9 := NB27002_27001.out; have hcz10_0 : w8.cell? ⟨gb27001, 0, none⟩ = some (.int .i64 a0_0) := (blk_cell BK27001.out 0).trans rfl; have hcz10_1 : w8.cell? ⟨gb27001, 1, none⟩ = some (.int .i64 a0_1) := (blk_cell BK27001.out 1).trans rfl; have hcz10_2 : w8.cell? ⟨gb27001, 2, none⟩ = some (.int .i64 a0_2) := (blk_cell BK27001.out 2).trans rfl; have hcz10_3 : w8.cell? ⟨gb27001, 3, none⟩ = some (.slice A0_3 l0_3.length c0_3) := (blk_cell BK27001.out 3).trans rfl; have hfz10_0 := blk_frozen BK27001.out 0; have hfz10_1 := blk_frozen BK27001.out 1; have hfz10_2 := blk_frozen BK27001.out 2; have hfz10_3 := blk_frozen BK27001.out 3; have hcz11_0 : w8.cell? ⟨gb27002, 0, none⟩ = some (.int .i64 a1_0) := (blk_cell BK27002.out 0).trans rfl; have hcz11_1 : w8.cell? ⟨gb27002, 1, none⟩ = some (.int .i64 a1_1) := (blk_cell BK27002.out 1).trans rfl; have hcz11_2 : w8.cell? ⟨gb27002, 2, none⟩ = some (.int .i64 a1_2) := (blk_cell BK27002.out 2).trans rfl; have hcz11_3 : w8.cell? ⟨gb27002, 3, none⟩ = some (.slice A1_3 l1_3.length c1_3) := (blk_cell BK27002.out 3).trans rfl; have hfz11_0 := blk_frozen BK27002.out 0; have hfz11_1 := blk_frozen BK27002.out 1; have hfz11_2 := blk_frozen BK27002.out 2; have hfz11_3 := blk_frozen BK27002.out 3) | (go_at_call 50; (with_reducible refine (laws_equalInts.calls k _ _ l0_3 _ _ l1_3 t27003 _ ?side1 ?side2 ?side3 ?side4 A6.out).mono ?_); (case side1 => repeat (exact (Kd.C_below HR0_3.out HB.out))); (case side2 => exact HC0_3.out); (case side3 => repeat (exact (Kd.C_below HR1_3.out HB.out))); (case side4 => exact HC1_3.out); rintro e w' ⟨rfl, ⟨nd, rfl⟩⟩))
    go_ret
    exact ⟨by rfl, by repeat (with_reducible first | exact HB.out | apply pw_below_drewN)⟩
   ·rw [if_neg c5] at H
    have c5b0 : (a0_2 == a1_2) = false := beq_eq_false_iff_ne.mpr c5
    have c5b1 : (a0_2 != a1_2) = true := bne_iff_ne.mpr c5
    obtain rfl := Option.some.inj H
    go_enter Try.func26, Try.ntmps26
    go_wp2_with (first | ((with_reducible refine gate_dst (N := 2) rfl ?_); refine box_event ?hg (N := 2) ?hd (cs := #[.int .i64 a0_0, .int .i64 a0_1, .int .i64 a0_2, .slice A0_3 l0_3.length c0_3]) (t := 27) ?hr ?_; (case hd => rfl); (case hg => rfl); (case hr => (go_simp; done)); intro gb27001 hg w12 hbox hb; have n0_ := mk (below_step HB.out hb); have n1_ := mk (hbox); have n2_ := mk ((by rw [hg]; exact (below_size HB.out) : w.heap.size ≤ gb27001)); have n3_ := mk ((by rw [hg]; exact (below_size HB.out) : w.heap.size ≤ gb27001)); clear HB; have HB := n0_; have BK27001 := n1_; have GW27001 := n2_; have GE27001 := n3_; clear n0_ n1_ n2_ n3_; clear hb hbox hg) | ((with_reducible refine gate_dst (N := 3) rfl ?_); refine box_event ?hg (N := 3) ?hd (cs := #[.int .i64 a1_0, .int .i64 a1_1, .int .i64 a1_2, .slice A1_3 l1_3.length c1_3]) (t := 27) ?hr ?_; (case hd => rfl); (case hg => rfl); (case hr => (go_simp; done)); intro gb27002 hg w13 hbox hb; have n0_ := mk (blk_below BK27001.out hb); have n1_ := mk (below_step HB.out hb); have n2_ := mk (hbox); have n3_ := mk ((by rw [hg]; exact (below_size HB.out) : w.heap.size ≤ gb27002)); have n4_ := mk ((by rw [hg]; exact (below_size HB.out) : w.heap.size ≤ gb27002)); have n5_ := mk ((by rw [hg]; exact Nat.ne_of_lt (blk_lt BK27001.out) : gb27001 ≠ gb27002)); have n6_ := mk ((by rw [hg]; exact Nat.ne_of_gt (blk_lt BK27001.out) : gb27002 ≠ gb27001)); clear BK27001; clear HB; have BK27001 := n0_; have HB := n1_; have BK27002 := n2_; have GW27002 := n3_; have GE27002 := n4_; have NB27001_27002 := n5_; have NB27002_27001 := n6_; clear n0_ n1_ n2_ n3_ n4_ n5_ n6_; clear hb hbox hg; have hnb14 := NB27001_27002.out; have hnc14 := NB27002_27001.out; have hcz15_0 : w13.cell? ⟨gb27001, 0, none⟩ = some (.int .i64 a0_0) := (blk_cell BK27001.out 0).trans rfl; have hcz15_1 : w13.cell? ⟨gb27001, 1, none⟩ = some (.int .i64 a0_1) := (blk_cell BK27001.out 1).trans rfl; have hcz15_2 : w13.cell? ⟨gb27001, 2, none⟩ = some (.int .i64 a0_2) := (blk_cell BK27001.out 2).trans rfl; have hcz15_3 : w13.cell? ⟨gb27001, 3, none⟩ = some (.slice A0_3 l0_3.length c0_3) := (blk_cell BK27001.out 3).trans rfl; have hfz15_0 := blk_frozen BK27001.out 0; have hfz15_1 := blk_frozen BK27001.out 1; have hfz15_2 := blk_frozen BK27001.out 2; have hfz15_3 := blk_frozen BK27001.out 3; have hcz16_0 : w13.cell? ⟨gb27002, 0, none⟩ = some (.int .i64 a1_0) := (blk_cell BK27002.out 0).trans rfl; have hcz16_1 : w13.cell? ⟨gb27002, 1, none⟩ = some (.int .i64 a1_1) := (blk_cell BK27002.out 1).trans rfl; have hcz16_2 : w13.cell? ⟨gb27002, 2, none⟩ = some (.int .i64 a1_2) := (blk_cell BK27002.out 2).trans rfl; have hcz16_3 : w13.cell? ⟨gb27002, 3, none⟩ = some (.slice A1_3 l1_3.length c1_3) := (blk_cell BK27002.out 3).trans rfl; have hfz16_0 := blk_frozen BK27002.out 0; have hfz16_1 := blk_frozen BK27002.out 1; have hfz16_2 := blk_frozen BK27002.out 2; have hfz16_3 := blk_frozen BK27002.out 3))
    go_ret
    exact ⟨by rfl, by exact HB.out⟩
  ·rw [if_neg c4] at H
   have c4b0 : (a0_1 == a1_1) = false := beq_eq_false_iff_ne.mpr c4
   have c4b1 : (a0_1 != a1_1) = true := bne_iff_ne.mpr c4
   obtain rfl := Option.some.inj H
   go_enter Try.func26, Try.ntmps26
   go_wp2_with (first | ((with_reducible refine gate_dst (N := 2) rfl ?_); refine box_event ?hg (N := 2) ?hd (cs := #[.int .i64 a0_0, .int .i64 a0_1, .int .i64 a0_2, .slice A0_3 l0_3.length c0_3]) (t := 27) ?hr ?_; (case hd => rfl); (case hg => rfl); (case hr => (go_simp; done)); intro gb27001 hg w17 hbox hb; have n0_ := mk (below_step HB.out hb); have n1_ := mk (hbox); have n2_ := mk ((by rw [hg]; exact (below_size HB.out) : w.heap.size ≤ gb27001)); have n3_ := mk ((by rw [hg]; exact (below_size HB.out) : w.heap.size ≤ gb27001)); clear HB; have HB := n0_; have BK27001 := n1_; have GW27001 := n2_; have GE27001 := n3_; clear n0_ n1_ n2_ n3_; clear hb hbox hg) | ((with_reducible refine gate_dst (N := 3) rfl ?_); refine box_event ?hg (N := 3) ?hd (cs := #[.int .i64 a1_0, .int .i64 a1_1, .int .i64 a1_2, .slice A1_3 l1_3.length c1_3]) (t := 27) ?hr ?_; (case hd => rfl); (case hg => rfl); (case hr => (go_simp; done)); intro gb27002 hg w18 hbox hb; have n0_ := mk (blk_below BK27001.out hb); have n1_ := mk (below_step HB.out hb); have n2_ := mk (hbox); have n3_ := mk ((by rw [hg]; exact (below_size HB.out) : w.heap.size ≤ gb27002)); have n4_ := mk ((by rw [hg]; exact (below_size HB.out) : w.heap.size ≤ gb27002)); have n5_ := mk ((by rw [hg]; exact Nat.ne_of_lt (blk_lt BK27001.out) : gb27001 ≠ gb27002)); have n6_ := mk ((by rw [hg]; exact Nat.ne_of_gt (blk_lt BK27001.out) : gb27002 ≠ gb27001)); clear BK27001; clear HB; have BK27001 := n0_; have HB := n1_; have BK27002 := n2_; have GW27002 := n3_; have GE27002 := n4_; have NB27001_27002 := n5_; have NB27002_27001 := n6_; clear n0_ n1_ n2_ n3_ n4_ n5_ n6_; clear hb hbox hg; have hnb19 := NB27001_27002.out; have hnc19 := NB27002_27001.out; have hcz20_0 : w18.cell? ⟨gb27001, 0, none⟩ = some (.int .i64 a0_0) := (blk_cell BK27001.out 0).trans rfl; have hcz20_1 : w18.cell? ⟨gb27001, 1, none⟩ = some (.int .i64 a0_1) := (blk_cell BK27001.out 1).trans rfl; have hcz20_2 : w18.cell? ⟨gb27001, 2, none⟩ = some (.int .i64 a0_2) := (blk_cell BK27001.out 2).trans rfl; have hcz20_3 : w18.cell? ⟨gb27001, 3, none⟩ = some (.slice A0_3 l0_3.length c0_3) := (blk_cell BK27001.out 3).trans rfl; have hfz20_0 := blk_frozen BK27001.out 0; have hfz20_1 := blk_frozen BK27001.out 1; have hfz20_2 := blk_frozen BK27001.out 2; have hfz20_3 := blk_frozen BK27001.out 3; have hcz21_0 : w18.cell? ⟨gb27002, 0, none⟩ = some (.int .i64 a1_0) := (blk_cell BK27002.out 0).trans rfl; have hcz21_1 : w18.cell? ⟨gb27002, 1, none⟩ = some (.int .i64 a1_1) := (blk_cell BK27002.out 1).trans rfl; have hcz21_2 : w18.cell? ⟨gb27002, 2, none⟩ = some (.int .i64 a1_2) := (blk_cell BK27002.out 2).trans rfl; have hcz21_3 : w18.cell? ⟨gb27002, 3, none⟩ = some (.slice A1_3 l1_3.length c1_3) := (blk_cell BK27002.out 3).trans rfl; have hfz21_0 := blk_frozen BK27002.out 0; have hfz21_1 := blk_frozen BK27002.out 1; have hfz21_2 := blk_frozen BK27002.out 2; have hfz21_3 := blk_frozen BK27002.out 3))
   go_ret
   exact ⟨by rfl, by exact HB.out⟩
 ·rw [if_neg c3] at H
  have c3b0 : (a0_0 == a1_0) = false := beq_eq_false_iff_ne.mpr c3
  have c3b1 : (a0_0 != a1_0) = true := bne_iff_ne.mpr c3
  obtain rfl := Option.some.inj H
  go_enter Try.func26, Try.ntmps26
  go_wp2_with (first | ((with_reducible refine gate_dst (N := 2) rfl ?_); refine box_event ?hg (N := 2) ?hd (cs := #[.int .i64 a0_0, .int .i64 a0_1, .int .i64 a0_2, .slice A0_3 l0_3.length c0_3]) (t := 27) ?hr ?_; (case hd => rfl); (case hg => rfl); (case hr => (go_simp; done)); intro gb27001 hg w22 hbox hb; have n0_ := mk (below_step HB.out hb); have n1_ := mk (hbox); have n2_ := mk ((by rw [hg]; exact (below_size HB.out) : w.heap.size ≤ gb27001)); have n3_ := mk ((by rw [hg]; exact (below_size HB.out) : w.heap.size ≤ gb27001)); clear HB; have HB := n0_; have BK27001 := n1_; have GW27001 := n2_; have GE27001 := n3_; clear n0_ n1_ n2_ n3_; clear hb hbox hg) | ((with_reducible refine gate_dst (N := 3) rfl ?_); refine box_event ?hg (N := 3) ?hd (cs := #[.int .i64 a1_0, .int .i64 a1_1, .int .i64 a1_2, .slice A1_3 l1_3.length c1_3]) (t := 27) ?hr ?_; (case hd => rfl); (case hg => rfl); (case hr => (go_simp; done)); intro gb27002 hg w23 hbox hb; have n0_ := mk (blk_below BK27001.out hb); have n1_ := mk (below_step HB.out hb); have n2_ := mk (hbox); have n3_ := mk ((by rw [hg]; exact (below_size HB.out) : w.heap.size ≤ gb27002)); have n4_ := mk ((by rw [hg]; exact (below_size HB.out) : w.heap.size ≤ gb27002)); have n5_ := mk ((by rw [hg]; exact Nat.ne_of_lt (blk_lt BK27001.out) : gb27001 ≠ gb27002)); have n6_ := mk ((by rw [hg]; exact Nat.ne_of_gt (blk_lt BK27001.out) : gb27002 ≠ gb27001)); clear BK27001; clear HB; have BK27001 := n0_; have HB := n1_; have BK27002 := n2_; have GW27002 := n3_; have GE27002 := n4_; have NB27001_27002 := n5_; have NB27002_27001 := n6_; clear n0_ n1_ n2_ n3_ n4_ n5_ n6_; clear hb hbox hg; have hnb24 := NB27001_27002.out; have hnc24 := NB27002_27001.out; have hcz25_0 : w23.cell? ⟨gb27001, 0, none⟩ = some (.int .i64 a0_0) := (blk_cell BK27001.out 0).trans rfl; have hcz25_1 : w23.cell? ⟨gb27001, 1, none⟩ = some (.int .i64 a0_1) := (blk_cell BK27001.out 1).trans rfl; have hcz25_2 : w23.cell? ⟨gb27001, 2, none⟩ = some (.int .i64 a0_2) := (blk_cell BK27001.out 2).trans rfl; have hcz25_3 : w23.cell? ⟨gb27001, 3, none⟩ = some (.slice A0_3 l0_3.length c0_3) := (blk_cell BK27001.out 3).trans rfl; have hfz25_0 := blk_frozen BK27001.out 0; have hfz25_1 := blk_frozen BK27001.out 1; have hfz25_2 := blk_frozen BK27001.out 2; have hfz25_3 := blk_frozen BK27001.out 3; have hcz26_0 : w23.cell? ⟨gb27002, 0, none⟩ = some (.int .i64 a1_0) := (blk_cell BK27002.out 0).trans rfl; have hcz26_1 : w23.cell? ⟨gb27002, 1, none⟩ = some (.int .i64 a1_1) := (blk_cell BK27002.out 1).trans rfl; have hcz26_2 : w23.cell? ⟨gb27002, 2, none⟩ = some (.int .i64 a1_2) := (blk_cell BK27002.out 2).trans rfl; have hcz26_3 : w23.cell? ⟨gb27002, 3, none⟩ = some (.slice A1_3 l1_3.length c1_3) := (blk_cell BK27002.out 3).trans rfl; have hfz26_0 := blk_frozen BK27002.out 0; have hfz26_1 := blk_frozen BK27002.out 1; have hfz26_2 := blk_frozen BK27002.out 2; have hfz26_3 := blk_frozen BK27002.out 3))
  go_ret
  exact ⟨by rfl, by exact HB.out⟩

end Go.Proofs.Ytnofkbbcbpjhfaa.Q

namespace Go.Proofs.Ytnofkbbcbpjhfaa.Q
open Go.RowKit Go.Proofs.YtnofkbbcbpjhfaaW.PrintWords Go.Proofs.YtnofkbbcbpjhfaaW.PrintLast Go.Proofs.YtnofkbbcbpjhfaaW.PrintMore
attribute [local go_sem] max2_int min2_int max_two min_two max_three min_three max_four min_four
set_option linter.unusedVariables false
set_option linter.unusedSimpArgs false
def impl_isSide.f (a0 : Int) : Option (Bool) := if a0 ≥ 1 then (some (decide (a0 ≤ 16))) else (some false)
set_option maxHeartbeats 8000000 in
set_option maxRecDepth 100000 in
theorem impl_isSide.calls (a0 : Int) (r : Bool) (w : World) (h : impl_isSide.f a0 = some r) :
  Calls Try.prog 153 #[.int .i64 a0] w fun e w' => e = .returned (.bool r) ∧ Drawn0 w w' := by
 have H : (if a0 ≥ 1 then (some (decide (a0 ≤ 16))) else (some false)) = some r := h
 clear h
 by_cases c2 : a0 ≥ 1
 ·rw [if_pos c2] at H
  have c2b0 : decide (1 ≤ a0) = true := decide_eq_true c2
  clear c2
  obtain rfl := Option.some.inj H
  go_enter Try.func153, Try.ntmps153
  go_wp2
  go_ret
  exact ⟨by first | rfl | (simp; done) | (simp [*]; done), by repeat (first | exact Drawn0.refl _ | apply Drawn0.step)⟩
 ·rw [if_neg c2] at H
  have c2b0 : decide (1 ≤ a0) = false := decide_eq_false c2
  clear c2
  obtain rfl := Option.some.inj H
  go_enter Try.func153, Try.ntmps153
  go_wp2
  go_ret
  exact ⟨by first | rfl | (simp; done) | (simp [*]; done), by repeat (first | exact Drawn0.refl _ | apply Drawn0.step)⟩


def impl_isShape.f (a0 : Int) (a1 : Int) (a2 : Int) : Option (Bool) := (impl_isSide.f a0).bind fun t132001 => (if t132001 = true then ((impl_isSide.f a1).bind fun t132002 => (if t132002 = true then (if a2 ≥ 1 then (some (decide (a2 ≤ 4))) else (some false)) else (some false))) else (some false))
set_option maxHeartbeats 8000000 in
set_option maxRecDepth 100000 in
theorem impl_isShape.calls (a0 : Int) (a1 : Int) (a2 : Int) (r : Bool) (w : World) (h : impl_isShape.f a0 a1 a2 = some r) :
  Calls Try.prog 131 #[.int .i64 a0, .int .i64 a1, .int .i64 a2] w fun e w' => e = .returned (.bool r) ∧ Drawn0 w w' := by
 have H : ((impl_isSide.f a0).bind fun t132001 => (if t132001 = true then ((impl_isSide.f a1).bind fun t132002 => (if t132002 = true then (if a2 ≥ 1 then (some (decide (a2 ≤ 4))) else (some false)) else (some false))) else (some false))) = some r := h
 clear h
 replace H := Option.bind_eq_some_iff.mp H
 obtain ⟨t132001, A40, H⟩ := H
 replace H : (if t132001 = true then ((impl_isSide.f a1).bind fun t132002 => (if t132002 = true then (if a2 ≥ 1 then (some (decide (a2 ≤ 4))) else (some false)) else (some false))) else (some false)) = some r := H
 have A4 := Aside0.mk A40
 clear A40
 by_cases c5 : t132001 = true
 ·subst c5
  have H1 : ((impl_isSide.f a1).bind fun t132002 => (if t132002 = true then (if a2 ≥ 1 then (some (decide (a2 ≤ 4))) else (some false)) else (some false))) = some r := by rw [if_pos rfl] at H; exact H
  clear H
  have H := H1
  clear H1
  replace H := Option.bind_eq_some_iff.mp H
  obtain ⟨t132002, A60, H⟩ := H
  replace H : (if t132002 = true then (if a2 ≥ 1 then (some (decide (a2 ≤ 4))) else (some false)) else (some false)) = some r := H
  have A6 := Aside0.mk A60
  clear A60
  by_cases c7 : t132002 = true
  ·subst c7
   have H1 : (if a2 ≥ 1 then (some (decide (a2 ≤ 4))) else (some false)) = some r := by rw [if_pos rfl] at H; exact H
   clear H
   have H := H1
   clear H1
   by_cases c8 : a2 ≥ 1
   ·rw [if_pos c8] at H
    have c8b0 : decide (1 ≤ a2) = true := decide_eq_true c8
    clear c8
    obtain rfl := Option.some.inj H
    go_enter Try.func131, Try.ntmps131
    go_wp2_with (first | ((with_reducible refine gate_callee (f := 153) rfl ?_); refine goesL_ (some 8) rfl rfl Try.func153 (by kernel_rfl) rfl #[.int .i64 a0] rfl (by (try simp only [List.map_toArray, List.map_cons, List.map_nil]); first | done | rfl | (simp only [List.length_drop, List.length_take]; rfl)) ?_; (with_reducible refine (impl_isSide.calls a0 true _ A4.out).mono ?_); rintro e w' ⟨rfl, ⟨nd, rfl⟩⟩; refine ⟨_, rfl, ?_⟩) | (go_at_call 153; (with_reducible refine (impl_isSide.calls a1 true _ A6.out).mono ?_); rintro e w' ⟨rfl, ⟨nd, rfl⟩⟩))
    go_ret
    exact ⟨by first | rfl | (simp; done) | (simp [*]; done), by repeat (first | exact Drawn0.refl _ | apply Drawn0.step)⟩
   ·rw [if_neg c8] at H
    have c8b0 : decide (1 ≤ a2) = false := decide_eq_false c8
    clear c8
    obtain rfl := Option.some.inj H
    go_enter Try.func131, Try.ntmps131
    go_wp2_with (first | ((with_reducible refine gate_callee (f := 153) rfl ?_); refine goesL_ (some 8) rfl rfl Try.func153 (by kernel_rfl) rfl #[.int .i64 a0] rfl (by (try simp only [List.map_toArray, List.map_cons, List.map_nil]); first | done | rfl | (simp only [List.length_drop, List.length_take]; rfl)) ?_; (with_reducible refine (impl_isSide.calls a0 true _ A4.out).mono ?_); rintro e w' ⟨rfl, ⟨nd, rfl⟩⟩; refine ⟨_, rfl, ?_⟩) | (go_at_call 153; (with_reducible refine (impl_isSide.calls a1 true _ A6.out).mono ?_); rintro e w' ⟨rfl, ⟨nd, rfl⟩⟩))
    go_ret
    exact ⟨by first | rfl | (simp; done) | (simp [*]; done), by repeat (first | exact Drawn0.refl _ | apply Drawn0.step)⟩
  ·replace c7 := Bool.eq_false_iff.mpr c7
   subst c7
   have H1 : (some false) = some r := by rw [if_neg (show ¬ (false = true) by decide)] at H; exact H
   clear H
   have H := H1
   clear H1
   obtain rfl := Option.some.inj H
   go_enter Try.func131, Try.ntmps131
   go_wp2_with (first | ((with_reducible refine gate_callee (f := 153) rfl ?_); refine goesL_ (some 8) rfl rfl Try.func153 (by kernel_rfl) rfl #[.int .i64 a0] rfl (by (try simp only [List.map_toArray, List.map_cons, List.map_nil]); first | done | rfl | (simp only [List.length_drop, List.length_take]; rfl)) ?_; (with_reducible refine (impl_isSide.calls a0 true _ A4.out).mono ?_); rintro e w' ⟨rfl, ⟨nd, rfl⟩⟩; refine ⟨_, rfl, ?_⟩) | (go_at_call 153; (with_reducible refine (impl_isSide.calls a1 false _ A6.out).mono ?_); rintro e w' ⟨rfl, ⟨nd, rfl⟩⟩))
   go_ret
   exact ⟨by first | rfl | (simp; done) | (simp [*]; done), by repeat (first | exact Drawn0.refl _ | apply Drawn0.step)⟩
 ·replace c5 := Bool.eq_false_iff.mpr c5
  subst c5
  have H1 : (some false) = some r := by rw [if_neg (show ¬ (false = true) by decide)] at H; exact H
  clear H
  have H := H1
  clear H1
  obtain rfl := Option.some.inj H
  go_enter Try.func131, Try.ntmps131
  go_wp2_with (first | ((with_reducible refine gate_callee (f := 153) rfl ?_); refine goesL_ (some 8) rfl rfl Try.func153 (by kernel_rfl) rfl #[.int .i64 a0] rfl (by (try simp only [List.map_toArray, List.map_cons, List.map_nil]); first | done | rfl | (simp only [List.length_drop, List.length_take]; rfl)) ?_; (with_reducible refine (impl_isSide.calls a0 false _ A4.out).mono ?_); rintro e w' ⟨rfl, ⟨nd, rfl⟩⟩; refine ⟨_, rfl, ?_⟩))
  go_ret
  exact ⟨by first | rfl | (simp; done) | (simp [*]; done), by repeat (first | exact Drawn0.refl _ | apply Drawn0.step)⟩


/- Words of this session's own hand-made walks: where the first element lies for which a test holds; draws that follow each other. -/

theorem dtrans {a b c : World} (h : Drawn0 a b) (k : Drawn0 b c) : Drawn0 a c := by
  obtain ⟨n, rfl⟩ := k
  exact h.step n

/-- where the first element is for which p holds; -1 -/
def idxF {α : Type} (p : α → Bool) : List α → Int
  | [] => -1
  | x :: xs => if p x then 0 else (let r := idxF p xs; if r < 0 then -1 else r + 1)
theorem idxF_any {α : Type} (p : α → Bool) (l : List α) : decide (idxF p l ≥ 0) = l.any p := by
  induction l with
  | nil => simp [idxF]
  | cons x xs ih =>
    unfold idxF
    by_cases h : p x = true
    · simp [h]
    · simp only [h, List.any_cons, Bool.false_or, ← ih]
      simp only [Bool.false_eq_true, if_false]
      split
      · simp; omega
      · simp; omega
/-- p fails at all that lies before k -/
def SawNone {α : Type} (p : α → Bool) (l : List α) (k : Nat) : Prop := ∀ j, j < k → ∀ h : j < l.length, p l[j] = false
theorem SawNone.succ {α : Type} {p : α → Bool} {l : List α} {k : Nat} (h : SawNone p l k) (hk : k < l.length) (hp : p l[k] = false) : SawNone p l (k + 1) := by
  intro j hj hl
  by_cases e : j = k
  · subst e; exact hp
  · exact h j (by omega) hl
theorem idxF_at {α : Type} (p : α → Bool) (l : List α) (k : Nat) (hk : k < l.length) (hs : SawNone p l k) (hp : p l[k] = true) : idxF p l = k := by
  induction l generalizing k with
  | nil => simp at hk
  | cons x xs ih =>
    unfold idxF
    cases k with
    | zero => simp at hp; simp [hp]
    | succ k =>
      have h0 : p x = false := hs 0 (by omega) (by simp)
      have := ih k (by simpa using hk) (fun j hj h => hs (j + 1) (by omega) (by simpa using h)) (by simpa using hp)
      simp [h0, this]; omega
theorem idxF_none {α : Type} (p : α → Bool) (l : List α) (hs : SawNone p l l.length) : idxF p l = -1 := by
  induction l with
  | nil => rfl
  | cons x xs ih =>
    unfold idxF
    have h0 : p x = false := hs 0 (by simp) (by simp)
    have := ih (fun j hj h => hs (j + 1) (by simpa using hj) (by simpa using h))
    simp [h0, this]
theorem rd_get (l : List Int) (k : Nat) (hk : k < l.length) : rd l k = l[k] := by simp [rd, hk]
theorem ret_bool {a b : Bool} (h : a = b) : Ending.returned (.bool a) = .returned (.bool b) := by rw [h]
theorem R_empty {α : Type} (d : Kd α) (e base : Nat) (W : World) (hb : base ≤ W.heap.size) : d.R e (W.alloc (.cells #[] e)) base (fun _ => True) (.slice (some ⟨W.heap.size, 0, none⟩) 0 0) [] :=
  ⟨fun _ _ => trivial, OwnRow.lit (ps := []) (inner := []) W base (Reps.none _ _) hb (by simp)⟩

/- slices.IndexFunc over whole numbers: where the first element lies for which the function value's answer is true. -/

set_option maxHeartbeats 1000000 in
theorem idxFunc_int (g : Nat) (lb : Array Value) (p : Int → Bool) (A : Option Addr) (c : Nat) (l : List Int) (w : World)
  (eg : ∀ args W, (callFunc g args).run Try.prog W = .ok (.enter g args) W)
  (hp : ∀ (W : World) (x : Int), Below w.heap.size w W → Calls Try.prog g (#[.int .i64 x] ++ lb) W fun e W' => e = .returned (.bool (p x)) ∧ Drawn0 W W')
  (hr : Kd.C (Kd.int .i64) w A l.length l) :
  Calls Try.prog 162 #[.slice A l.length c, .func (.func g) #[] lb] w fun e w' => e = .returned (.int .i64 (idxF p l)) ∧ Drawn0 w w' := by
 have hm : l.length ≤ 9223372036854775807 := hr.2.1
 have HP := Aside0.mk hp
 have HR := Aside0.mk hr
 clear hp hr
 go_enter Try.func162, Try.ntmps162
 go_wp2
 go_loopw [8] (fun v8 W => ∃ k : Nat, v8 = .int .i64 k ∧ k ≤ l.length ∧ SawNone p l k ∧ Drawn0 w W) (fun v8 _ => l.length - (intOf v8).toNat)
 case atStart => exact ⟨0, rfl, by omega, fun j hj => by omega, Drawn0.refl _⟩
 case round =>
  obtain ⟨k, rfl, hk, hs, hd⟩ := hrel
  by_cases hlt : k < l.length
  ·obtain ⟨ad, e, hx⟩ := Kd.at_int HR.out (k : Int) (by omega) (by omega)
   cases e
   rw [rd_get l k hlt, Int.toNat_natCast] at hx
   replace hx := (hd.below.cell (World.block_lt_of_cell? w _ hx)).trans hx
   by_cases hv : p l[k] = true
   ·have HV := Aside0.mk hv
    clear hv
    go_wp2_with (first | (go_at_fn g; refine (HP.out _ _ hd.below).mono ?_; rintro e w' ⟨rfl, hd2⟩; rw [HV.out]))
    go_ret
    exact ⟨by rw [idxF_at p l k hlt hs HV.out]; rfl, dtrans hd hd2⟩
   ·replace hv : p l[k] = false := by simpa using hv
    have hs' := hs.succ hlt hv
    have HV := Aside0.mk hv
    clear hv
    go_wp2_with (first | (go_at_fn g; refine (HP.out _ _ hd.below).mono ?_; rintro e w' ⟨rfl, hd2⟩; rw [HV.out]))
    go_roundw
    case rel => exact ⟨k + 1, by go_num, by omega, hs', dtrans hd hd2⟩
    case measure => simp [intOf]; omega
  ·go_wp2
   go_ret
   have : k = l.length := by omega
   subst this
   exact ⟨by rw [idxF_none p l hs]; rfl, hd⟩

/- slices.ContainsFunc over whole numbers. -/

set_option maxHeartbeats 1000000 in
theorem containsFunc_int (g : Nat) (lb : Array Value) (p : Int → Bool) (A : Option Addr) (c : Nat) (l : List Int) (w : World)
  (eg : ∀ args W, (callFunc g args).run Try.prog W = .ok (.enter g args) W)
  (hp : ∀ (W : World) (x : Int), Below w.heap.size w W → Calls Try.prog g (#[.int .i64 x] ++ lb) W fun e W' => e = .returned (.bool (p x)) ∧ Drawn0 W W')
  (hr : Kd.C (Kd.int .i64) w A l.length l) :
  Calls Try.prog 154 #[.slice A l.length c, .func (.func g) #[] lb] w fun e w' => e = .returned (.bool (l.any p)) ∧ Drawn0 w w' := by
 have HP := Aside0.mk hp
 have HR := Aside0.mk hr
 clear hp hr
 go_enter Try.func154, Try.ntmps154
 go_wp2_with (first | (go_at_call 162; refine (idxFunc_int g lb p _ _ _ _ eg HP.out HR.out).mono ?_; rintro e w' ⟨rfl, hd⟩))
 go_ret
 exact ⟨ret_bool (by first | exact idxF_any p l | (rw [← idxF_any p l])), hd⟩

/- impl.areBytes: every number is in 0..255. -/

def notByte (n : Int) : Bool := decide (n < 0) || decide (n > 255)
def impl_areBytes.f (l0 : List Int) : Option Bool := some (!l0.any notByte)

theorem areBytes1 (n : Int) (w : World) : Calls Try.prog 155 #[.int .i64 n] w fun e w' => e = .returned (.bool (notByte n)) ∧ Drawn0 w w' := by
 by_cases h1 : n < 0 <;> by_cases h2 : n > 255
 all_goals
  go_enter Try.func155, Try.ntmps155
  go_wp2
  go_ret
  exact ⟨by simp [notByte, *], Drawn0.refl _⟩

set_option maxHeartbeats 1000000 in
theorem impl_areBytes.calls (A0 : Option Addr) (c0 : Nat) (l0 : List Int) (r : Bool) (w : World) (hr0 : Kd.C (Kd.int .i64) w A0 l0.length l0) (hc0 : l0.length ≤ c0) (h : impl_areBytes.f l0 = some r) :
  Calls Try.prog 132 #[.slice A0 l0.length c0] w fun e w' => e = .returned (.bool r) ∧ Drawn0 w w' := by
 obtain rfl := Option.some.inj h
 clear h
 have HR := Aside0.mk hr0
 clear hr0
 have eg : ∀ args W, (callFunc 155 args).run Try.prog W = .ok (.enter 155 args) W := enters_of Try.func155 (by kernel_rfl) rfl
 go_enter Try.func132, Try.ntmps132
 go_wp2_with (first | (go_at_call 154; refine (containsFunc_int 155 #[] notByte _ _ _ _ eg (fun W x _ => areBytes1 x W) HR.out).mono ?_; rintro e w' ⟨rfl, hd⟩))
 go_ret
 exact ⟨rfl, hd⟩

def impl_isImage.f (a0_0 : Int) (a0_1 : Int) (a0_2 : Int) (l0_3 : List Int) : Option Bool := (impl_isShape.f a0_0 a0_1 a0_2).bind fun tz1 => (if tz1 = true then (if (l0_3.length : Int) = (wrap64 ((wrap64 (a0_0 * a0_1)) * a0_2)) then ((impl_areBytes.f l0_3).bind fun tz0 => (some tz0)) else (some false)) else (some false))
set_option maxHeartbeats 8000000 in
set_option maxRecDepth 100000 in
theorem impl_isImage.calls (a0_0 : Int) (a0_1 : Int) (a0_2 : Int) (A0_3 : Option Addr) (c0_3 : Nat) (l0_3 : List Int) (r : Bool) (w : World) (hr0_3 : Kd.C (Kd.int .i64) w A0_3 l0_3.length l0_3) (hc0_3 : l0_3.length ≤ c0_3) (h : impl_isImage.f a0_0 a0_1 a0_2 l0_3 = some r) :
  Calls Try.prog 83 #[.agg #[.int .i64 a0_0, .int .i64 a0_1, .int .i64 a0_2, .slice A0_3 l0_3.length c0_3]] w fun e w' => e = .returned (.bool r) ∧ Below w.heap.size w w' := by
 have hu27 := Try.underlying27
 have HR0_3 := Aside0.mk hr0_3
 have HC0_3 := Aside0.mk hc0_3
 clear hr0_3 hc0_3
 have HB := Aside0.mk (Below.refl w.heap.size w)
 have H : ((impl_isShape.f a0_0 a0_1 a0_2).bind fun tz1 => (if tz1 = true then (if (l0_3.length : Int) = (wrap64 ((wrap64 (a0_0 * a0_1)) * a0_2)) then ((impl_areBytes.f l0_3).bind fun tz0 => (some tz0)) else (some false)) else (some false))) = some r := h
 clear h
 replace H := Option.bind_eq_some_iff.mp H
 obtain ⟨tz1, A20, H⟩ := H
 replace H : (if tz1 = true then (if (l0_3.length : Int) = (wrap64 ((wrap64 (a0_0 * a0_1)) * a0_2)) then ((impl_areBytes.f l0_3).bind fun tz0 => (some tz0)) else (some false)) else (some false)) = some r := H
 have A2 := Aside0.mk A20
 clear A20
 by_cases c3 : tz1 = true
 ·subst c3
  have H1 : (if (l0_3.length : Int) = (wrap64 ((wrap64 (a0_0 * a0_1)) * a0_2)) then ((impl_areBytes.f l0_3).bind fun tz0 => (some tz0)) else (some false)) = some r := by rw [if_pos rfl] at H; exact H
  clear H
  have H := H1
  clear H1
  by_cases c4 : (l0_3.length : Int) = (wrap64 ((wrap64 (a0_0 * a0_1)) * a0_2))
  ·rw [if_pos c4] at H
   have c4b0 : ((l0_3.length : Int) == (wrap64 ((wrap64 (a0_0 * a0_1)) * a0_2))) = true := beq_iff_eq.mpr c4
   have c4b1 : ((l0_3.length : Int) != (wrap64 ((wrap64 (a0_0 * a0_1)) * a0_2))) = false := bne_eq_false_iff_eq.mpr c4
   clear c4
   replace H := Option.bind_eq_some_iff.mp H
   obtain ⟨tz0, A50, H⟩ := H
   replace H : (some tz0) = some r := H
   have A5 := Aside0.mk A50
   clear A50
   obtain rfl := Option.some.inj H
   go_enter Try.func83, Try.ntmps83
   go_wp2_with (first | ((with_reducible refine gate_dst (N := 1) rfl ?_); (try (refine gate_guard (by rfl) ?_; dsimp only)); refine box_event (by rfl) (N := 1) (by rfl) (cs := #[.int .i64 a0_0, .int .i64 a0_1, .int .i64 a0_2, .slice A0_3 l0_3.length c0_3]) (t := 27) (by go_simp; done) ?_; intro gbz0 hg w6 hbox hb; replace HB := Aside0.mk (below_step HB.out hb); have BKz0 := Aside0.mk (hbox); clear hb hbox hg; have hcz7_0 : w6.cell? ⟨gbz0, 0, none⟩ = some (.int .i64 a0_0) := (blk_cell BKz0.out 0).trans rfl; have hcz7_1 : w6.cell? ⟨gbz0, 1, none⟩ = some (.int .i64 a0_1) := (blk_cell BKz0.out 1).trans rfl; have hcz7_2 : w6.cell? ⟨gbz0, 2, none⟩ = some (.int .i64 a0_2) := (blk_cell BKz0.out 2).trans rfl; have hcz7_3 : w6.cell? ⟨gbz0, 3, none⟩ = some (.slice A0_3 l0_3.length c0_3) := (blk_cell BKz0.out 3).trans rfl) | ((with_reducible refine gate_callee (f := 131) rfl ?_); refine goesL_ (some 9) rfl rfl Try.func131 (by kernel_rfl) rfl #[.int .i64 a0_0, .int .i64 a0_1, .int .i64 a0_2] rfl (by (try simp only [List.map_toArray, List.map_cons, List.map_nil]); rfl) ?_; (with_reducible refine (impl_isShape.calls a0_0 a0_1 a0_2 true _ A2.out).mono ?_); rintro e w' ⟨rfl, ⟨nd, rfl⟩⟩; refine ⟨_, rfl, ?_⟩) | (go_at_call 132; (with_reducible refine (impl_areBytes.calls _ _ l0_3 tz0 _ ?side1 ?side2 A5.out).mono ?_); (case side1 => repeat (exact (Kd.C_below HR0_3.out (by repeat (with_reducible first | exact HB.out | apply pw_below_drewN))))); (case side2 => exact HC0_3.out); rintro e w' ⟨rfl, ⟨nd, rfl⟩⟩))
   go_ret
   exact ⟨by rfl, by repeat (with_reducible first | exact HB.out | apply pw_below_drewN)⟩
  rw [if_neg c4] at H
  have c4b0 : ((l0_3.length : Int) == (wrap64 ((wrap64 (a0_0 * a0_1)) * a0_2))) = false := beq_eq_false_iff_ne.mpr c4
  have c4b1 : ((l0_3.length : Int) != (wrap64 ((wrap64 (a0_0 * a0_1)) * a0_2))) = true := bne_iff_ne.mpr c4
  obtain rfl := Option.some.inj H
  go_enter Try.func83, Try.ntmps83
  go_wp2_with (first | ((with_reducible refine gate_dst (N := 1) rfl ?_); (try (refine gate_guard (by rfl) ?_; dsimp only)); refine box_event (by rfl) (N := 1) (by rfl) (cs := #[.int .i64 a0_0, .int .i64 a0_1, .int .i64 a0_2, .slice A0_3 l0_3.length c0_3]) (t := 27) (by go_simp; done) ?_; intro gbz0 hg w8 hbox hb; replace HB := Aside0.mk (below_step HB.out hb); have BKz0 := Aside0.mk (hbox); clear hb hbox hg; have hcz9_0 : w8.cell? ⟨gbz0, 0, none⟩ = some (.int .i64 a0_0) := (blk_cell BKz0.out 0).trans rfl; have hcz9_1 : w8.cell? ⟨gbz0, 1, none⟩ = some (.int .i64 a0_1) := (blk_cell BKz0.out 1).trans rfl; have hcz9_2 : w8.cell? ⟨gbz0, 2, none⟩ = some (.int .i64 a0_2) := (blk_cell BKz0.out 2).trans rfl; have hcz9_3 : w8.cell? ⟨gbz0, 3, none⟩ = some (.slice A0_3 l0_3.length c0_3) := (blk_cell BKz0.out 3).trans rfl) | ((with_reducible refine gate_callee (f := 131) rfl ?_); refine goesL_ (some 9) rfl rfl Try.func131 (by kernel_rfl) rfl #[.int .i64 a0_0, .int .i64 a0_1, .int .i64 a0_2] rfl (by (try simp only [List.map_toArray, List.map_cons, List.map_nil]); rfl) ?_; (with_reducible refine (impl_isShape.calls a0_0 a0_1 a0_2 true _ A2.out).mono ?_); rintro e w' ⟨rfl, ⟨nd, rfl⟩⟩; refine ⟨_, rfl, ?_⟩))
  go_ret
  exact ⟨by rfl, by repeat (with_reducible first | exact HB.out | apply pw_below_drewN)⟩
 replace c3 := Bool.eq_false_iff.mpr c3
 subst c3
 have H1 : (some false) = some r := by rw [if_neg (show ¬ (false = true) by decide)] at H; exact H
 clear H
 have H := H1
 clear H1
 obtain rfl := Option.some.inj H
 go_enter Try.func83, Try.ntmps83
 go_wp2_with (first | ((with_reducible refine gate_dst (N := 1) rfl ?_); (try (refine gate_guard (by rfl) ?_; dsimp only)); refine box_event (by rfl) (N := 1) (by rfl) (cs := #[.int .i64 a0_0, .int .i64 a0_1, .int .i64 a0_2, .slice A0_3 l0_3.length c0_3]) (t := 27) (by go_simp; done) ?_; intro gbz0 hg w10 hbox hb; replace HB := Aside0.mk (below_step HB.out hb); have BKz0 := Aside0.mk (hbox); clear hb hbox hg; have hcz11_0 : w10.cell? ⟨gbz0, 0, none⟩ = some (.int .i64 a0_0) := (blk_cell BKz0.out 0).trans rfl; have hcz11_1 : w10.cell? ⟨gbz0, 1, none⟩ = some (.int .i64 a0_1) := (blk_cell BKz0.out 1).trans rfl; have hcz11_2 : w10.cell? ⟨gbz0, 2, none⟩ = some (.int .i64 a0_2) := (blk_cell BKz0.out 2).trans rfl) | ((with_reducible refine gate_callee (f := 131) rfl ?_); refine goesL_ (some 9) rfl rfl Try.func131 (by kernel_rfl) rfl #[.int .i64 a0_0, .int .i64 a0_1, .int .i64 a0_2] rfl (by (try simp only [List.map_toArray, List.map_cons, List.map_nil]); rfl) ?_; (with_reducible refine (impl_isShape.calls a0_0 a0_1 a0_2 false _ A2.out).mono ?_); rintro e w' ⟨rfl, ⟨nd, rfl⟩⟩; refine ⟨_, rfl, ?_⟩))
 go_ret
 exact ⟨by rfl, by repeat (with_reducible first | exact HB.out | apply pw_below_drewN)⟩


/- What a block's cells hold, told at once; and what the world at the call's begin held. -/

theorem bc {w W : World} {a : Addr} {v : Value} (h : Below w.heap.size w W) (hc : w.cell? a = some v) : W.cell? a = some v := (h.cell (World.block_lt_of_cell? w _ hc)).trans hc
theorem c2 {w : World} {g t : Nat} {a0 a1 : Value} (h : w.heap[g]? = some (.cells #[a0, a1] t (0, 0))) : w.cell? ⟨g, 0, none⟩ = some a0 ∧ w.cell? ⟨g, 1, none⟩ = some a1 ∧ w.frozen? ⟨g, 0, none⟩ = false ∧ w.frozen? ⟨g, 1, none⟩ = false := ⟨(blk_cell h 0).trans rfl, (blk_cell h 1).trans rfl, blk_frozen h 0, blk_frozen h 1⟩
theorem c3 {w : World} {g t : Nat} {a0 a1 a2 : Value} (h : w.heap[g]? = some (.cells #[a0, a1, a2] t (0, 0))) : w.cell? ⟨g, 0, none⟩ = some a0 ∧ w.cell? ⟨g, 1, none⟩ = some a1 ∧ w.cell? ⟨g, 2, none⟩ = some a2 ∧ w.frozen? ⟨g, 0, none⟩ = false ∧ w.frozen? ⟨g, 1, none⟩ = false ∧ w.frozen? ⟨g, 2, none⟩ = false := ⟨(blk_cell h 0).trans rfl, (blk_cell h 1).trans rfl, (blk_cell h 2).trans rfl, blk_frozen h 0, blk_frozen h 1, blk_frozen h 2⟩
theorem c4 {w : World} {g t : Nat} {a0 a1 a2 a3 : Value} (h : w.heap[g]? = some (.cells #[a0, a1, a2, a3] t (0, 0))) : w.cell? ⟨g, 0, none⟩ = some a0 ∧ w.cell? ⟨g, 1, none⟩ = some a1 ∧ w.cell? ⟨g, 2, none⟩ = some a2 ∧ w.cell? ⟨g, 3, none⟩ = some a3 ∧ w.frozen? ⟨g, 0, none⟩ = false ∧ w.frozen? ⟨g, 1, none⟩ = false ∧ w.frozen? ⟨g, 2, none⟩ = false ∧ w.frozen? ⟨g, 3, none⟩ = false := ⟨(blk_cell h 0).trans rfl, (blk_cell h 1).trans rfl, (blk_cell h 2).trans rfl, (blk_cell h 3).trans rfl, blk_frozen h 0, blk_frozen h 1, blk_frozen h 2, blk_frozen h 3⟩
theorem c6 {w : World} {g t : Nat} {a0 a1 a2 a3 a4 a5 : Value} (h : w.heap[g]? = some (.cells #[a0, a1, a2, a3, a4, a5] t (0, 0))) : w.cell? ⟨g, 0, none⟩ = some a0 ∧ w.cell? ⟨g, 1, none⟩ = some a1 ∧ w.cell? ⟨g, 2, none⟩ = some a2 ∧ w.cell? ⟨g, 3, none⟩ = some a3 ∧ w.cell? ⟨g, 4, none⟩ = some a4 ∧ w.cell? ⟨g, 5, none⟩ = some a5 ∧ w.frozen? ⟨g, 0, none⟩ = false ∧ w.frozen? ⟨g, 1, none⟩ = false ∧ w.frozen? ⟨g, 2, none⟩ = false ∧ w.frozen? ⟨g, 3, none⟩ = false ∧ w.frozen? ⟨g, 4, none⟩ = false ∧ w.frozen? ⟨g, 5, none⟩ = false := ⟨(blk_cell h 0).trans rfl, (blk_cell h 1).trans rfl, (blk_cell h 2).trans rfl, (blk_cell h 3).trans rfl, (blk_cell h 4).trans rfl, (blk_cell h 5).trans rfl, blk_frozen h 0, blk_frozen h 1, blk_frozen h 2, blk_frozen h 3, blk_frozen h 4, blk_frozen h 5⟩
theorem c9 {w : World} {g t : Nat} {a0 a1 a2 a3 a4 a5 a6 a7 a8 : Value} (h : w.heap[g]? = some (.cells #[a0, a1, a2, a3, a4, a5, a6, a7, a8] t (0, 0))) : w.cell? ⟨g, 0, none⟩ = some a0 ∧ w.cell? ⟨g, 1, none⟩ = some a1 ∧ w.cell? ⟨g, 2, none⟩ = some a2 ∧ w.cell? ⟨g, 3, none⟩ = some a3 ∧ w.cell? ⟨g, 4, none⟩ = some a4 ∧ w.cell? ⟨g, 5, none⟩ = some a5 ∧ w.cell? ⟨g, 6, none⟩ = some a6 ∧ w.cell? ⟨g, 7, none⟩ = some a7 ∧ w.cell? ⟨g, 8, none⟩ = some a8 ∧ w.frozen? ⟨g, 0, none⟩ = false ∧ w.frozen? ⟨g, 1, none⟩ = false ∧ w.frozen? ⟨g, 2, none⟩ = false ∧ w.frozen? ⟨g, 3, none⟩ = false ∧ w.frozen? ⟨g, 4, none⟩ = false ∧ w.frozen? ⟨g, 5, none⟩ = false ∧ w.frozen? ⟨g, 6, none⟩ = false ∧ w.frozen? ⟨g, 7, none⟩ = false ∧ w.frozen? ⟨g, 8, none⟩ = false := ⟨(blk_cell h 0).trans rfl, (blk_cell h 1).trans rfl, (blk_cell h 2).trans rfl, (blk_cell h 3).trans rfl, (blk_cell h 4).trans rfl, (blk_cell h 5).trans rfl, (blk_cell h 6).trans rfl, (blk_cell h 7).trans rfl, (blk_cell h 8).trans rfl, blk_frozen h 0, blk_frozen h 1, blk_frozen h 2, blk_frozen h 3, blk_frozen h 4, blk_frozen h 5, blk_frozen h 6, blk_frozen h 7, blk_frozen h 8⟩
end Go.Proofs.Ytnofkbbcbpjhfaa.Q

namespace Go.Proofs.Ytnofkbbcbpjhfaa.Q
open Go.RowKit Go.Proofs.YtnofkbbcbpjhfaaW.PrintWords Go.Proofs.YtnofkbbcbpjhfaaW.PrintLast Go.Proofs.YtnofkbbcbpjhfaaW.PrintMore
open Go.Proofs.YtnofkbbcbpjhfaaW.PrintWords.Aside0 (mk)
attribute [local go_sem] max2_int min2_int max_two min_two max_three min_three max_four min_four
set_option linter.unusedVariables false
set_option linter.unusedSimpArgs false
mutual
def impl_tileBoxes.l0 : Nat → List S47 → Int → Int → Int → Int → List Int → Option ((List S47))
 | 0, _, _, _, _, _, _ => none
 | k + 1, x3, x4, xz0, xz1, xz2, xz3 => if x4 < xz1 then (impl_tileBoxes.l1 k x3 x4 0 xz0 xz1 xz2 xz3) else (some x3)
def impl_tileBoxes.l1 : Nat → List S47 → Int → Int → Int → Int → Int → List Int → Option ((List S47))
 | 0, _, _, _, _, _, _, _ => none
 | k + 1, x3, x4, x5, xz0, xz1, xz2, xz3 => if x5 < xz0 then (if x3.length < 4398046511104 then (impl_tileBoxes.l1 k (x3 ++ [(⟨x5, x4, mn 4 (wrap64 (xz0 - x5)), mn 4 (wrap64 (xz1 - x4))⟩ : S47)]) x4 (wrap64 (x5 + 4)) xz0 xz1 xz2 xz3) else none) else (impl_tileBoxes.l0 k x3 (wrap64 (x4 + 4)) xz0 xz1 xz2 xz3)
end
def impl_tileBoxes.f (k : Nat) (a0_0 : Int) (a0_1 : Int) (a0_2 : Int) (l0_3 : List Int) : Option ((List S47)) := impl_tileBoxes.l0 k (([] : List S47)) 0 a0_0 a0_1 a0_2 l0_3
theorem impl_tileBoxes.mono_l : ∀ k, (∀ y0 y1 y2 y3 y4 y5, LeO (impl_tileBoxes.l0 k y0 y1 y2 y3 y4 y5) (impl_tileBoxes.l0 (k + 1) y0 y1 y2 y3 y4 y5)) ∧ (∀ y0 y1 y2 y3 y4 y5 y6, LeO (impl_tileBoxes.l1 k y0 y1 y2 y3 y4 y5 y6) (impl_tileBoxes.l1 (k + 1) y0 y1 y2 y3 y4 y5 y6))
 | 0 => ⟨fun _ _ _ _ _ _ r h => by simp [impl_tileBoxes.l0] at h, fun _ _ _ _ _ _ _ r h => by simp [impl_tileBoxes.l1] at h⟩
 | k + 1 => by
  obtain ⟨ih0, ih1⟩ := impl_tileBoxes.mono_l k
  refine ⟨?_, ?_⟩
  ·intro y0 y1 y2 y3 y4 y5
   unfold impl_tileBoxes.l0
   repeat' first | (with_reducible exact ih1 _ _ _ _ _ _ _) | (with_reducible exact LeO.refl _) | (with_reducible refine LeO.ite ?_ ?_)
  intro y0 y1 y2 y3 y4 y5 y6
  unfold impl_tileBoxes.l1
  repeat' first | (with_reducible exact ih0 _ _ _ _ _ _) | (with_reducible exact ih1 _ _ _ _ _ _ _) | (with_reducible exact LeO.refl _) | (with_reducible refine LeO.ite ?_ ?_)
theorem impl_tileBoxes.mono : ∀ a0 a1 a2 a3 k, LeO (impl_tileBoxes.f k a0 a1 a2 a3) (impl_tileBoxes.f (k + 1) a0 a1 a2 a3) := by
 intro a0 a1 a2 a3 k
 obtain ⟨ih0, ih1⟩ := impl_tileBoxes.mono_l k
 unfold impl_tileBoxes.f
 repeat' (with_reducible exact ih0 _ _ _ _ _ _)
set_option maxHeartbeats 8000000 in
set_option maxRecDepth 100000 in
theorem impl_tileBoxes.calls (k : Nat) (a0_0 : Int) (a0_1 : Int) (a0_2 : Int) (A0_3 : Option Addr) (c0_3 : Nat) (l0_3 : List Int) (r : List S47) (w : World) (hr0_3 : Kd.C (Kd.int .i64) w A0_3 l0_3.length l0_3) (hc0_3 : l0_3.length ≤ c0_3) (h : impl_tileBoxes.f k a0_0 a0_1 a0_2 l0_3 = some r) :
  Calls Try.prog 92 #[.agg #[.int .i64 a0_0, .int .i64 a0_1, .int .i64 a0_2, .slice A0_3 l0_3.length c0_3]] w fun e w' => ∃ v0_ : Value, e = .returned v0_ ∧ Kd.R k47 47 w' w.heap.size (fun _ => True) v0_ r ∧ Below w.heap.size w w' := by
 have hu27 := Try.underlying27
 have hu47 := Try.underlying47
 have HR0_3 := mk hr0_3
 have HC0_3 := mk hc0_3
 clear hr0_3 hc0_3
 have HB := mk (Below.refl w.heap.size w)
 have H : (impl_tileBoxes.l0 k (([] : List S47)) 0 a0_0 a0_1 a0_2 l0_3) = some r := h
 clear h
 obtain ⟨yz0, hyz0⟩ : ∃ y_ : List (S47), y_ = (([] : List S47)) := ⟨_, rfl⟩
 replace H : (impl_tileBoxes.l0 k yz0 0 a0_0 a0_1 a0_2 l0_3) = some r := by (rw [hyz0]; with_reducible exact H)
 have Nyz0 := mk hyz0
 clear hyz0
 have H' := mk H
 clear H
 go_enter Try.func92, Try.ntmps92
 go_wp2_with (first | ((with_reducible refine gate_dst (N := 1) rfl ?_); refine box_event (by rfl) (N := 1) (by rfl) (cs := #[.int .i64 a0_0, .int .i64 a0_1, .int .i64 a0_2, .slice A0_3 l0_3.length c0_3]) (t := 27) (by go_simp; done) ?_; intro gbz0 hg w2 hbox hb; have BKz0 := mk (hbox); have GWz0 := mk ((by rw [hg]; exact (below_size HB.out) : w.heap.size ≤ gbz0)); have GEz0 := mk ((by rw [hg]; exact (below_size HB.out) : w.heap.size ≤ gbz0)); replace HB := mk (below_step HB.out hb); clear hb hbox hg) | ((with_reducible refine gate_dst (N := 6) rfl ?_); refine Kd.R_lit k47 _ 47 ?hg (N := 6) ?hd (xs := ([] : List S47)) (inner := []) (ok := fun _ => True) (okp := fun _ => True) ?hr ?hp (fun _ hk => hk) trivial (Below.refl _ _) (Nat.le_refl _) (by simp) ?_; (case hd => rfl); (case hg => rfl); (case hr => (go_simp; done)); (case hp => exact (Reps.none _ _)); intro vz0 w3 ho4 hb hg_ hnew_; clear hg_ hnew_; (rw [← Nyz0.out] at ho4); have HOz0 := mk (Kd.R_lower ho4 (below_size HB.out)); replace BKz0 := mk (blk_below BKz0.out hb); replace HB := mk (below_step HB.out hb); clear hb ho4))
 go_loopg [3, 4] k (fun kq v3 v4 w' => ∃ (x3_1 : List S47) (x4_1 : Int), v4 = .int .i64 x4_1 ∧ Aside0 (impl_tileBoxes.l0 kq x3_1 x4_1 a0_0 a0_1 a0_2 l0_3 = some r) ∧ Aside0 (kq ≤ k) ∧ Aside0 (Kd.R k47 47 w' w.heap.size (fun _ => True) v3 x3_1) ∧ Aside0 (w'.heap[gbz0]? = some (.cells #[.int .i64 a0_0, .int .i64 a0_1, .int .i64 a0_2, (.slice A0_3 l0_3.length c0_3)] 27 (0, 0))) ∧ Aside0 (Below w.heap.size w w'))
 case atStart => exact ⟨(yz0), (0), (by rfl), H', ⟨Nat.le_refl _⟩, HOz0, BKz0, HB⟩
 case round =>
  clear H'
  obtain ⟨x3_1, x4_1, rfl, HA, HK1, HO_3, BKz0, HB⟩ := hrel
  cases gk with
  | zero => exact absurd HA.out (by simp [impl_tileBoxes.l0])
  | succ k1 =>
   have H := HA.out
   clear HA
   simp only [impl_tileBoxes.l0] at H
   by_cases c5 : x4_1 < a0_1
   ·rw [if_pos c5] at H
    have c5b0 : decide (x4_1 < a0_1) = true := decide_eq_true c5
    clear c5
    have H' := mk H
    clear H
    obtain ⟨hcz6_0, hcz6_1, hcz6_2, hcz6_3, hfz6_0, hfz6_1, hfz6_2, hfz6_3⟩ := c4 BKz0.out
    go_wp2
    go_loopg [3, 5] k1 (fun kq v3 v5 w' => ∃ (x3_2 : List S47) (x5_2 : Int), v5 = .int .i64 x5_2 ∧ Aside0 (impl_tileBoxes.l1 kq x3_2 x4_1 x5_2 a0_0 a0_1 a0_2 l0_3 = some r) ∧ Aside0 (kq ≤ k1) ∧ Aside0 (Kd.R k47 47 w' w.heap.size (fun _ => True) v3 x3_2) ∧ Aside0 (w'.heap[gbz0]? = some (.cells #[.int .i64 a0_0, .int .i64 a0_1, .int .i64 a0_2, (.slice A0_3 l0_3.length c0_3)] 27 (0, 0))) ∧ Aside0 (Below w.heap.size w w'))
    case atStart => exact ⟨(x3_1), (0), (by rfl), H', ⟨Nat.le_refl _⟩, HO_3, BKz0, HB⟩
    case round =>
     clear H'
     obtain ⟨x3_2, x5_2, rfl, HA, HK2, HO_3, BKz0, HB⟩ := hrel
     cases gk with
     | zero => exact absurd HA.out (by simp [impl_tileBoxes.l1])
     | succ k2 =>
      have H := HA.out
      clear HA
      simp only [impl_tileBoxes.l1] at H
      by_cases c7 : x5_2 < a0_0
      ·rw [if_pos c7] at H
       have c7b0 : decide (x5_2 < a0_0) = true := decide_eq_true c7
       clear c7
       obtain ⟨ji8, hji8⟩ : ∃ j_ : Int, (mn 4 (wrap64 (a0_0 - x5_2))) = j_ := ⟨_, rfl⟩
       replace H : (if x3_2.length < 4398046511104 then (impl_tileBoxes.l1 k2 (x3_2 ++ [(⟨x5_2, x4_1, ji8, mn 4 (wrap64 (a0_1 - x4_1))⟩ : S47)]) x4_1 (wrap64 (x5_2 + 4)) a0_0 a0_1 a0_2 l0_3) else none) = some r := by (rw [hji8] at H; exact H)
       have hji8_ : (if (wrap64 (a0_0 - x5_2)) < 4 then (wrap64 (a0_0 - x5_2)) else 4) = ji8 := hji8
       obtain ⟨ji9, hji9⟩ : ∃ j_ : Int, (mn 4 (wrap64 (a0_1 - x4_1))) = j_ := ⟨_, rfl⟩
       replace H : (if x3_2.length < 4398046511104 then (impl_tileBoxes.l1 k2 (x3_2 ++ [(⟨x5_2, x4_1, ji8, ji9⟩ : S47)]) x4_1 (wrap64 (x5_2 + 4)) a0_0 a0_1 a0_2 l0_3) else none) = some r := by (rw [hji9] at H; exact H)
       have hji9_ : (if (wrap64 (a0_1 - x4_1)) < 4 then (wrap64 (a0_1 - x4_1)) else 4) = ji9 := hji9
       by_cases c10 : x3_2.length < 4398046511104
       ·rw [if_pos c10] at H
        have LMc10 := mk c10
        clear c10
        obtain ⟨yz1, hyz1⟩ : ∃ y_ : List (S47), y_ = (x3_2 ++ [(⟨x5_2, x4_1, ji8, ji9⟩ : S47)]) := ⟨_, rfl⟩
        replace H : (impl_tileBoxes.l1 k2 yz1 x4_1 (wrap64 (x5_2 + 4)) a0_0 a0_1 a0_2 l0_3) = some r := by (rw [hyz1]; with_reducible exact H)
        have Nyz1 := mk hyz1
        clear hyz1
        have H' := mk H
        clear H
        obtain ⟨hcz11_0, hcz11_1, hcz11_2, hcz11_3, hfz11_0, hfz11_1, hfz11_2, hfz11_3⟩ := c4 BKz0.out
        go_wp2_with (first | ((with_reducible refine gate_builtin (b := .append) (xs := #[.tmp 19, .tmp 33]) rfl ?_); at_builtin; refine Kd.R_append k47 (w0 := w) w.heap.size rfl (.tmp 19) (.tmp 33) 36 47 (.agg #[(.int .i64 0), (.int .i64 0), (.int .i64 0), (.int .i64 0)]) 32 rfl Try.underlying36 info47 rfl (by decide) (by omega) u3 x3_2 (⟨x5_2, x4_1, ji8, ji9⟩ : S47) [.int .i64 x5_2, .int .i64 x4_1, .int .i64 ji8, .int .i64 ji9] (fun _ => True) (fun _ => False) rfl rfl ?aP (fun _ hk => hk.elim) ?aF ?aO ?aB ?aS ?aL ?_; (case aP => exact k47_mkM _ _ _ (⟨x5_2, x4_1, ji8, ji9⟩ : S47)); (case aB => exact HB.out); (case aF => exact (fun _ _ => trivial)); (case aO => exact HO_3.out); (case aS => exact (below_size HB.out)); (case aL => have := LMc10.out; omega); intro vz1 w12 ho hb hg hat; rw [← Nyz1.out] at ho; have n0_ := mk (blk_grown (g := gbz0) (o := .cells #[.int .i64 a0_0, .int .i64 a0_1, .int .i64 a0_2, .slice A0_3 l0_3.length c0_3] 27 (0, 0)) BKz0.out hg (Kd.R_ne HO_3.out BKz0.out (by decide))); have n1_ := mk (hb); have n2_ := mk (ho); clear BKz0; clear HB; clear HO_3; have BKz0 := n0_; have HB := n1_; have HOz1 := n2_; clear ho hb hg hat))
        go_roundg k2
        case measure => have := HK1.out; have := HK2.out; omega
        case rel => exact ⟨(yz1), (wrap64 (x5_2 + 4)), (by rfl), H', ⟨by have := HK1.out; have := HK2.out; omega⟩, HOz1, BKz0, HB⟩
       rw [if_neg c10] at H
       exact absurd H (by simp)
      rw [if_neg c7] at H
      have c7b0 : decide (x5_2 < a0_0) = false := decide_eq_false c7
      clear c7
      have H' := mk H
      clear H
      obtain ⟨hcz13_0, hcz13_1, hcz13_2, hcz13_3, hfz13_0, hfz13_1, hfz13_2, hfz13_3⟩ := c4 BKz0.out
      go_wp2
      go_roundg k2
      case measure => have := HK1.out; have := HK2.out; omega
      case rel => exact ⟨(x3_2), (wrap64 (x4_1 + 4)), (by rfl), H', ⟨by have := HK1.out; have := HK2.out; omega⟩, HO_3, BKz0, HB⟩
   rw [if_neg c5] at H
   have c5b0 : decide (x4_1 < a0_1) = false := decide_eq_false c5
   clear c5
   obtain rfl := Option.some.inj H
   obtain ⟨hcz14_0, hcz14_1, hcz14_2, hcz14_3, hfz14_0, hfz14_1, hfz14_2, hfz14_3⟩ := c4 BKz0.out
   go_wp2
   go_ret
   exact ⟨_, by rfl, by exact HO_3.out, by exact HB.out⟩

end Go.Proofs.Ytnofkbbcbpjhfaa.Q

namespace Go.Proofs.Ytnofkbbcbpjhfaa.Q
open Go.RowKit Go.Proofs.YtnofkbbcbpjhfaaW.PrintWords Go.Proofs.YtnofkbbcbpjhfaaW.PrintLast Go.Proofs.YtnofkbbcbpjhfaaW.PrintMore
attribute [local go_sem] max2_int min2_int max_two min_two max_three min_three max_four min_four
set_option linter.unusedVariables false
set_option linter.unusedSimpArgs false
def impl_isMode.f (a0 : Int) : Option (Bool) := if a0 ≥ 0 then (some (decide (a0 ≤ 4))) else (some false)
set_option maxHeartbeats 8000000 in
set_option maxRecDepth 100000 in
theorem impl_isMode.calls (a0 : Int) (r : Bool) (w : World) (h : impl_isMode.f a0 = some r) :
  Calls Try.prog 141 #[.int .i64 a0] w fun e w' => e = .returned (.bool r) ∧ Drawn0 w w' := by
 have H : (if a0 ≥ 0 then (some (decide (a0 ≤ 4))) else (some false)) = some r := h
 clear h
 by_cases c2 : a0 ≥ 0
 ·rw [if_pos c2] at H
  have c2b0 : decide (0 ≤ a0) = true := decide_eq_true c2
  clear c2
  obtain rfl := Option.some.inj H
  go_enter Try.func141, Try.ntmps141
  go_wp2
  go_ret
  exact ⟨by first | rfl | (simp; done) | (simp [*]; done), by repeat (first | exact Drawn0.refl _ | apply Drawn0.step)⟩
 ·rw [if_neg c2] at H
  have c2b0 : decide (0 ≤ a0) = false := decide_eq_false c2
  clear c2
  obtain rfl := Option.some.inj H
  go_enter Try.func141, Try.ntmps141
  go_wp2
  go_ret
  exact ⟨by first | rfl | (simp; done) | (simp [*]; done), by repeat (first | exact Drawn0.refl _ | apply Drawn0.step)⟩

end Go.Proofs.Ytnofkbbcbpjhfaa.Q

namespace Go.Proofs.Ytnofkbbcbpjhfaa.Q
open Go.RowKit Go.Proofs.YtnofkbbcbpjhfaaW.PrintWords Go.Proofs.YtnofkbbcbpjhfaaW.PrintLast Go.Proofs.YtnofkbbcbpjhfaaW.PrintMore
open Go.Proofs.YtnofkbbcbpjhfaaW.PrintWords.Aside0 (mk)
attribute [local go_sem] max2_int min2_int max_two min_two max_three min_three max_four min_four
set_option linter.unusedVariables false
set_option linter.unusedSimpArgs false
def impl_isLayer.f (a0_0 : Int) (a0_1 : Int) (a0_2 : Int) (l0_3 : List Int) (a0_4 : Int) (a0_5 : Int) (a0_6 : Int) (a0_7 : Int) (a0_8 : Bool) (a1 : Int) : Option Bool := (impl_isImage.f a0_0 a0_1 a0_2 l0_3).bind fun tz1 => (if tz1 = true then (if a0_2 = a1 then (if a0_4 ≥ (-16) then (if a0_4 ≤ 16 then (if a0_5 ≥ (-16) then (if a0_5 ≤ 16 then ((impl_isMode.f a0_6).bind fun tz0 => (if tz0 = true then (if a0_7 ≥ 0 then (some (decide (a0_7 ≤ 255))) else (some false)) else (some false))) else (some false)) else (some false)) else (some false)) else (some false)) else (some false)) else (some false))
set_option maxHeartbeats 8000000 in
set_option maxRecDepth 100000 in
theorem impl_isLayer.calls (a0_0 : Int) (a0_1 : Int) (a0_2 : Int) (A0_3 : Option Addr) (c0_3 : Nat) (l0_3 : List Int) (a0_4 : Int) (a0_5 : Int) (a0_6 : Int) (a0_7 : Int) (a0_8 : Bool) (a1 : Int) (r : Bool) (w : World) (hr0_3 : Kd.C (Kd.int .i64) w A0_3 l0_3.length l0_3) (hc0_3 : l0_3.length ≤ c0_3) (h : impl_isLayer.f a0_0 a0_1 a0_2 l0_3 a0_4 a0_5 a0_6 a0_7 a0_8 a1 = some r) :
  Calls Try.prog 103 #[.agg #[.int .i64 a0_0, .int .i64 a0_1, .int .i64 a0_2, .slice A0_3 l0_3.length c0_3, .int .i64 a0_4, .int .i64 a0_5, .int .i64 a0_6, .int .i64 a0_7, .bool a0_8], .int .i64 a1] w fun e w' => e = .returned (.bool r) ∧ Below w.heap.size w w' := by
 have hu55 := Try.underlying55
 have hu27 := Try.underlying27
 have HR0_3 := mk hr0_3
 have HC0_3 := mk hc0_3
 clear hr0_3 hc0_3
 have HB := mk (Below.refl w.heap.size w)
 have H : ((impl_isImage.f a0_0 a0_1 a0_2 l0_3).bind fun tz1 => (if tz1 = true then (if a0_2 = a1 then (if a0_4 ≥ (-16) then (if a0_4 ≤ 16 then (if a0_5 ≥ (-16) then (if a0_5 ≤ 16 then ((impl_isMode.f a0_6).bind fun tz0 => (if tz0 = true then (if a0_7 ≥ 0 then (some (decide (a0_7 ≤ 255))) else (some false)) else (some false))) else (some false)) else (some false)) else (some false)) else (some false)) else (some false)) else (some false))) = some r := h
 clear h
 replace H := Option.bind_eq_some_iff.mp H
 obtain ⟨tz1, A30, H⟩ := H
 replace H : (if tz1 = true then (if a0_2 = a1 then (if a0_4 ≥ (-16) then (if a0_4 ≤ 16 then (if a0_5 ≥ (-16) then (if a0_5 ≤ 16 then ((impl_isMode.f a0_6).bind fun tz0 => (if tz0 = true then (if a0_7 ≥ 0 then (some (decide (a0_7 ≤ 255))) else (some false)) else (some false))) else (some false)) else (some false)) else (some false)) else (some false)) else (some false)) else (some false)) = some r := H
 have A3 := mk A30
 clear A30
 by_cases c4 : tz1 = true
 ·subst c4
  have H1 : (if a0_2 = a1 then (if a0_4 ≥ (-16) then (if a0_4 ≤ 16 then (if a0_5 ≥ (-16) then (if a0_5 ≤ 16 then ((impl_isMode.f a0_6).bind fun tz0 => (if tz0 = true then (if a0_7 ≥ 0 then (some (decide (a0_7 ≤ 255))) else (some false)) else (some false))) else (some false)) else (some false)) else (some false)) else (some false)) else (some false)) = some r := by rw [if_pos rfl] at H; exact H
  clear H
  have H := H1
  clear H1
  by_cases c5 : a0_2 = a1
  ·rw [if_pos c5] at H
   have c5b0 : (a0_2 == a1) = true := beq_iff_eq.mpr c5
   have c5b1 : (a0_2 != a1) = false := bne_eq_false_iff_eq.mpr c5
   clear c5
   by_cases c6 : a0_4 ≥ (-16)
   ·rw [if_pos c6] at H
    have c6b0 : decide ((-16) ≤ a0_4) = true := decide_eq_true c6
    clear c6
    by_cases c7 : a0_4 ≤ 16
    ·rw [if_pos c7] at H
     have c7b0 : decide (a0_4 ≤ 16) = true := decide_eq_true c7
     clear c7
     by_cases c8 : a0_5 ≥ (-16)
     ·rw [if_pos c8] at H
      have c8b0 : decide ((-16) ≤ a0_5) = true := decide_eq_true c8
      clear c8
      by_cases c9 : a0_5 ≤ 16
      ·rw [if_pos c9] at H
       have c9b0 : decide (a0_5 ≤ 16) = true := decide_eq_true c9
       clear c9
       replace H := Option.bind_eq_some_iff.mp H
       obtain ⟨tz0, A100, H⟩ := H
       replace H : (if tz0 = true then (if a0_7 ≥ 0 then (some (decide (a0_7 ≤ 255))) else (some false)) else (some false)) = some r := H
       have A10 := mk A100
       clear A100
       by_cases c11 : tz0 = true
       ·subst c11
        have H1 : (if a0_7 ≥ 0 then (some (decide (a0_7 ≤ 255))) else (some false)) = some r := by rw [if_pos rfl] at H; exact H
        clear H
        have H := H1
        clear H1
        by_cases c12 : a0_7 ≥ 0
        ·rw [if_pos c12] at H
         have c12b0 : decide (0 ≤ a0_7) = true := decide_eq_true c12
         clear c12
         obtain rfl := Option.some.inj H
         go_enter Try.func103, Try.ntmps103
         go_wp2_with (first | ((with_reducible refine gate_dst (N := 2) rfl ?_); refine box_event (by rfl) (N := 2) (by rfl) (cs := #[.int .i64 a0_0, .int .i64 a0_1, .int .i64 a0_2, .slice A0_3 l0_3.length c0_3, .int .i64 a0_4, .int .i64 a0_5, .int .i64 a0_6, .int .i64 a0_7, .bool a0_8]) (t := 55) (by go_simp; done) ?_; intro gbz0 hg w13 hbox hb; have n0_ := mk (below_step HB.out hb); have n1_ := mk (hbox); have n2_ := mk ((by rw [hg]; exact (below_size HB.out) : w.heap.size ≤ gbz0)); have n3_ := mk ((by rw [hg]; exact (below_size HB.out) : w.heap.size ≤ gbz0)); clear HB; have HB := n0_; have BKz0 := n1_; have GWz0 := n2_; have GEz0 := n3_; clear n0_ n1_ n2_ n3_; clear hb hbox hg; obtain ⟨hcz14_0, hcz14_1, hcz14_2, hcz14_3, hcz14_4, hcz14_5, hcz14_6, hcz14_7, hcz14_8, hfz14_0, hfz14_1, hfz14_2, hfz14_3, hfz14_4, hfz14_5, hfz14_6, hfz14_7, -⟩ := c9 BKz0.out; have hfz14_8 := blk_frozen BKz0.out 8) | ((with_reducible refine gate_callee (f := 83) rfl ?_); refine goesL_ (some 7) rfl rfl Try.func83 (by kernel_rfl) rfl #[.agg #[.int .i64 a0_0, .int .i64 a0_1, .int .i64 a0_2, .slice A0_3 l0_3.length c0_3]] rfl (by (try simp only [List.map_toArray, List.map_cons, List.map_nil]); rfl) ?_; (with_reducible refine (impl_isImage.calls a0_0 a0_1 a0_2 _ _ l0_3 true _ ?side1 ?side2 A3.out).mono ?_); (case side1 => repeat (exact (Kd.C_below HR0_3.out HB.out))); (case side2 => exact HC0_3.out); rintro e w15 ⟨rfl, hb⟩; refine ⟨_, rfl, ?_⟩; have n0_ := mk (blk_below BKz0.out hb); have n1_ := mk (below_step HB.out hb); clear BKz0; clear HB; have BKz0 := n0_; have HB := n1_; clear n0_ n1_; (try clear hb); obtain ⟨hcz16_0, hcz16_1, hcz16_2, hcz16_3, hcz16_4, hcz16_5, hcz16_6, hcz16_7, hcz16_8, hfz16_0, hfz16_1, hfz16_2, hfz16_3, hfz16_4, hfz16_5, hfz16_6, hfz16_7, -⟩ := c9 BKz0.out; have hfz16_8 := blk_frozen BKz0.out 8) | (go_at_call 141; (with_reducible refine (impl_isMode.calls a0_6 true _ A10.out).mono ?_); rintro e w' ⟨rfl, ⟨nd, rfl⟩⟩))
         go_ret
         exact ⟨by rfl, by repeat (with_reducible first | exact HB.out | apply pw_below_drewN)⟩
        rw [if_neg c12] at H
        have c12b0 : decide (0 ≤ a0_7) = false := decide_eq_false c12
        clear c12
        obtain rfl := Option.some.inj H
        go_enter Try.func103, Try.ntmps103
        go_wp2_with (first | ((with_reducible refine gate_dst (N := 2) rfl ?_); refine box_event (by rfl) (N := 2) (by rfl) (cs := #[.int .i64 a0_0, .int .i64 a0_1, .int .i64 a0_2, .slice A0_3 l0_3.length c0_3, .int .i64 a0_4, .int .i64 a0_5, .int .i64 a0_6, .int .i64 a0_7, .bool a0_8]) (t := 55) (by go_simp; done) ?_; intro gbz0 hg w17 hbox hb; have n0_ := mk (below_step HB.out hb); have n1_ := mk (hbox); have n2_ := mk ((by rw [hg]; exact (below_size HB.out) : w.heap.size ≤ gbz0)); have n3_ := mk ((by rw [hg]; exact (below_size HB.out) : w.heap.size ≤ gbz0)); clear HB; have HB := n0_; have BKz0 := n1_; have GWz0 := n2_; have GEz0 := n3_; clear n0_ n1_ n2_ n3_; clear hb hbox hg; obtain ⟨hcz18_0, hcz18_1, hcz18_2, hcz18_3, hcz18_4, hcz18_5, hcz18_6, hcz18_7, hcz18_8, hfz18_0, hfz18_1, hfz18_2, hfz18_3, hfz18_4, hfz18_5, hfz18_6, hfz18_7, -⟩ := c9 BKz0.out; have hfz18_8 := blk_frozen BKz0.out 8) | ((with_reducible refine gate_callee (f := 83) rfl ?_); refine goesL_ (some 7) rfl rfl Try.func83 (by kernel_rfl) rfl #[.agg #[.int .i64 a0_0, .int .i64 a0_1, .int .i64 a0_2, .slice A0_3 l0_3.length c0_3]] rfl (by (try simp only [List.map_toArray, List.map_cons, List.map_nil]); rfl) ?_; (with_reducible refine (impl_isImage.calls a0_0 a0_1 a0_2 _ _ l0_3 true _ ?side1 ?side2 A3.out).mono ?_); (case side1 => repeat (exact (Kd.C_below HR0_3.out HB.out))); (case side2 => exact HC0_3.out); rintro e w19 ⟨rfl, hb⟩; refine ⟨_, rfl, ?_⟩; have n0_ := mk (blk_below BKz0.out hb); have n1_ := mk (below_step HB.out hb); clear BKz0; clear HB; have BKz0 := n0_; have HB := n1_; clear n0_ n1_; (try clear hb); obtain ⟨hcz20_0, hcz20_1, hcz20_2, hcz20_3, hcz20_4, hcz20_5, hcz20_6, hcz20_7, hcz20_8, hfz20_0, hfz20_1, hfz20_2, hfz20_3, hfz20_4, hfz20_5, hfz20_6, hfz20_7, -⟩ := c9 BKz0.out; have hfz20_8 := blk_frozen BKz0.out 8) | (go_at_call 141; (with_reducible refine (impl_isMode.calls a0_6 true _ A10.out).mono ?_); rintro e w' ⟨rfl, ⟨nd, rfl⟩⟩))
        go_ret
        exact ⟨by rfl, by repeat (with_reducible first | exact HB.out | apply pw_below_drewN)⟩
       replace c11 := Bool.eq_false_iff.mpr c11
       subst c11
       have H1 : (some false) = some r := by rw [if_neg (show ¬ (false = true) by decide)] at H; exact H
       clear H
       have H := H1
       clear H1
       obtain rfl := Option.some.inj H
       go_enter Try.func103, Try.ntmps103
       go_wp2_with (first | ((with_reducible refine gate_dst (N := 2) rfl ?_); refine box_event (by rfl) (N := 2) (by rfl) (cs := #[.int .i64 a0_0, .int .i64 a0_1, .int .i64 a0_2, .slice A0_3 l0_3.length c0_3, .int .i64 a0_4, .int .i64 a0_5, .int .i64 a0_6, .int .i64 a0_7, .bool a0_8]) (t := 55) (by go_simp; done) ?_; intro gbz0 hg w21 hbox hb; have n0_ := mk (below_step HB.out hb); have n1_ := mk (hbox); have n2_ := mk ((by rw [hg]; exact (below_size HB.out) : w.heap.size ≤ gbz0)); have n3_ := mk ((by rw [hg]; exact (below_size HB.out) : w.heap.size ≤ gbz0)); clear HB; have HB := n0_; have BKz0 := n1_; have GWz0 := n2_; have GEz0 := n3_; clear n0_ n1_ n2_ n3_; clear hb hbox hg; obtain ⟨hcz22_0, hcz22_1, hcz22_2, hcz22_3, hcz22_4, hcz22_5, hcz22_6, hcz22_7, hcz22_8, hfz22_0, hfz22_1, hfz22_2, hfz22_3, hfz22_4, hfz22_5, hfz22_6, hfz22_7, -⟩ := c9 BKz0.out; have hfz22_8 := blk_frozen BKz0.out 8) | ((with_reducible refine gate_callee (f := 83) rfl ?_); refine goesL_ (some 7) rfl rfl Try.func83 (by kernel_rfl) rfl #[.agg #[.int .i64 a0_0, .int .i64 a0_1, .int .i64 a0_2, .slice A0_3 l0_3.length c0_3]] rfl (by (try simp only [List.map_toArray, List.map_cons, List.map_nil]); rfl) ?_; (with_reducible refine (impl_isImage.calls a0_0 a0_1 a0_2 _ _ l0_3 true _ ?side1 ?side2 A3.out).mono ?_); (case side1 => repeat (exact (Kd.C_below HR0_3.out HB.out))); (case side2 => exact HC0_3.out); rintro e w23 ⟨rfl, hb⟩; refine ⟨_, rfl, ?_⟩; have n0_ := mk (blk_below BKz0.out hb); have n1_ := mk (below_step HB.out hb); clear BKz0; clear HB; have BKz0 := n0_; have HB := n1_; clear n0_ n1_; (try clear hb); obtain ⟨hcz24_0, hcz24_1, hcz24_2, hcz24_3, hcz24_4, hcz24_5, hcz24_6, hcz24_7, hcz24_8, hfz24_0, hfz24_1, hfz24_2, hfz24_3, hfz24_4, hfz24_5, hfz24_6, hfz24_7, -⟩ := c9 BKz0.out; have hfz24_8 := blk_frozen BKz0.out 8) | (go_at_call 141; (with_reducible refine (impl_isMode.calls a0_6 false _ A10.out).mono ?_); rintro e w' ⟨rfl, ⟨nd, rfl⟩⟩))
       go_ret
       exact ⟨by rfl, by repeat (with_reducible first | exact HB.out | apply pw_below_drewN)⟩
      rw [if_neg c9] at H
      have c9b0 : decide (a0_5 ≤ 16) = false := decide_eq_false c9
      clear c9
      obtain rfl := Option.some.inj H
      go_enter Try.func103, Try.ntmps103
      go_wp2_with (first | ((with_reducible refine gate_dst (N := 2) rfl ?_); refine box_event (by rfl) (N := 2) (by rfl) (cs := #[.int .i64 a0_0, .int .i64 a0_1, .int .i64 a0_2, .slice A0_3 l0_3.length c0_3, .int .i64 a0_4, .int .i64 a0_5, .int .i64 a0_6, .int .i64 a0_7, .bool a0_8]) (t := 55) (by go_simp; done) ?_; intro gbz0 hg w25 hbox hb; have n0_ := mk (below_step HB.out hb); have n1_ := mk (hbox); have n2_ := mk ((by rw [hg]; exact (below_size HB.out) : w.heap.size ≤ gbz0)); have n3_ := mk ((by rw [hg]; exact (below_size HB.out) : w.heap.size ≤ gbz0)); clear HB; have HB := n0_; have BKz0 := n1_; have GWz0 := n2_; have GEz0 := n3_; clear n0_ n1_ n2_ n3_; clear hb hbox hg; obtain ⟨hcz26_0, hcz26_1, hcz26_2, hcz26_3, hcz26_4, hcz26_5, hcz26_6, hcz26_7, hcz26_8, hfz26_0, hfz26_1, hfz26_2, hfz26_3, hfz26_4, hfz26_5, hfz26_6, hfz26_7, -⟩ := c9 BKz0.out; have hfz26_8 := blk_frozen BKz0.out 8) | ((with_reducible refine gate_callee (f := 83) rfl ?_); refine goesL_ (some 7) rfl rfl Try.func83 (by kernel_rfl) rfl #[.agg #[.int .i64 a0_0, .int .i64 a0_1, .int .i64 a0_2, .slice A0_3 l0_3.length c0_3]] rfl (by (try simp only [List.map_toArray, List.map_cons, List.map_nil]); rfl) ?_; (with_reducible refine (impl_isImage.calls a0_0 a0_1 a0_2 _ _ l0_3 true _ ?side1 ?side2 A3.out).mono ?_); (case side1 => repeat (exact (Kd.C_below HR0_3.out HB.out))); (case side2 => exact HC0_3.out); rintro e w27 ⟨rfl, hb⟩; refine ⟨_, rfl, ?_⟩; have n0_ := mk (blk_below BKz0.out hb); have n1_ := mk (below_step HB.out hb); clear BKz0; clear HB; have BKz0 := n0_; have HB := n1_; clear n0_ n1_; (try clear hb); obtain ⟨hcz28_0, hcz28_1, hcz28_2, hcz28_3, hcz28_4, hcz28_5, hcz28_6, hcz28_7, hcz28_8, hfz28_0, hfz28_1, hfz28_2, hfz28_3, hfz28_4, hfz28_5, hfz28_6, hfz28_7, hfz28_8⟩ := c9 BKz0.out))
      go_ret
      exact ⟨by rfl, by exact HB.out⟩
     rw [if_neg c8] at H
     have c8b0 : decide ((-16) ≤ a0_5) = false := decide_eq_false c8
     clear c8
     obtain rfl := Option.some.inj H
     go_enter Try.func103, Try.ntmps103
     go_wp2_with (first | ((with_reducible refine gate_dst (N := 2) rfl ?_); refine box_event (by rfl) (N := 2) (by rfl) (cs := #[.int .i64 a0_0, .int .i64 a0_1, .int .i64 a0_2, .slice A0_3 l0_3.length c0_3, .int .i64 a0_4, .int .i64 a0_5, .int .i64 a0_6, .int .i64 a0_7, .bool a0_8]) (t := 55) (by go_simp; done) ?_; intro gbz0 hg w29 hbox hb; have n0_ := mk (below_step HB.out hb); have n1_ := mk (hbox); have n2_ := mk ((by rw [hg]; exact (below_size HB.out) : w.heap.size ≤ gbz0)); have n3_ := mk ((by rw [hg]; exact (below_size HB.out) : w.heap.size ≤ gbz0)); clear HB; have HB := n0_; have BKz0 := n1_; have GWz0 := n2_; have GEz0 := n3_; clear n0_ n1_ n2_ n3_; clear hb hbox hg; obtain ⟨hcz30_0, hcz30_1, hcz30_2, hcz30_3, hcz30_4, hcz30_5, hcz30_6, hcz30_7, hcz30_8, hfz30_0, hfz30_1, hfz30_2, hfz30_3, hfz30_4, hfz30_5, hfz30_6, hfz30_7, -⟩ := c9 BKz0.out; have hfz30_8 := blk_frozen BKz0.out 8) | ((with_reducible refine gate_callee (f := 83) rfl ?_); refine goesL_ (some 7) rfl rfl Try.func83 (by kernel_rfl) rfl #[.agg #[.int .i64 a0_0, .int .i64 a0_1, .int .i64 a0_2, .slice A0_3 l0_3.length c0_3]] rfl (by (try simp only [List.map_toArray, List.map_cons, List.map_nil]); rfl) ?_; (with_reducible refine (impl_isImage.calls a0_0 a0_1 a0_2 _ _ l0_3 true _ ?side1 ?side2 A3.out).mono ?_); (case side1 => repeat (exact (Kd.C_below HR0_3.out HB.out))); (case side2 => exact HC0_3.out); rintro e w31 ⟨rfl, hb⟩; refine ⟨_, rfl, ?_⟩; have n0_ := mk (blk_below BKz0.out hb); have n1_ := mk (below_step HB.out hb); clear BKz0; clear HB; have BKz0 := n0_; have HB := n1_; clear n0_ n1_; (try clear hb); obtain ⟨hcz32_0, hcz32_1, hcz32_2, hcz32_3, hcz32_4, hcz32_5, hcz32_6, hcz32_7, hcz32_8, hfz32_0, hfz32_1, hfz32_2, hfz32_3, hfz32_4, hfz32_5, hfz32_6, hfz32_7, hfz32_8⟩ := c9 BKz0.out))
     go_ret
     exact ⟨by rfl, by exact HB.out⟩
    rw [if_neg c7] at H
    have c7b0 : decide (a0_4 ≤ 16) = false := decide_eq_false c7
    clear c7
    obtain rfl := Option.some.inj H
    go_enter Try.func103, Try.ntmps103
    go_wp2_with (first | ((with_reducible refine gate_dst (N := 2) rfl ?_); refine box_event (by rfl) (N := 2) (by rfl) (cs := #[.int .i64 a0_0, .int .i64 a0_1, .int .i64 a0_2, .slice A0_3 l0_3.length c0_3, .int .i64 a0_4, .int .i64 a0_5, .int .i64 a0_6, .int .i64 a0_7, .bool a0_8]) (t := 55) (by go_simp; done) ?_; intro gbz0 hg w33 hbox hb; have n0_ := mk (below_step HB.out hb); have n1_ := mk (hbox); have n2_ := mk ((by rw [hg]; exact (below_size HB.out) : w.heap.size ≤ gbz0)); have n3_ := mk ((by rw [hg]; exact (below_size HB.out) : w.heap.size ≤ gbz0)); clear HB; have HB := n0_; have BKz0 := n1_; have GWz0 := n2_; have GEz0 := n3_; clear n0_ n1_ n2_ n3_; clear hb hbox hg; obtain ⟨hcz34_0, hcz34_1, hcz34_2, hcz34_3, hcz34_4, hcz34_5, hcz34_6, hcz34_7, hcz34_8, hfz34_0, hfz34_1, hfz34_2, hfz34_3, hfz34_4, hfz34_5, hfz34_6, hfz34_7, -⟩ := c9 BKz0.out; have hfz34_8 := blk_frozen BKz0.out 8) | ((with_reducible refine gate_callee (f := 83) rfl ?_); refine goesL_ (some 7) rfl rfl Try.func83 (by kernel_rfl) rfl #[.agg #[.int .i64 a0_0, .int .i64 a0_1, .int .i64 a0_2, .slice A0_3 l0_3.length c0_3]] rfl (by (try simp only [List.map_toArray, List.map_cons, List.map_nil]); rfl) ?_; (with_reducible refine (impl_isImage.calls a0_0 a0_1 a0_2 _ _ l0_3 true _ ?side1 ?side2 A3.out).mono ?_); (case side1 => repeat (exact (Kd.C_below HR0_3.out HB.out))); (case side2 => exact HC0_3.out); rintro e w35 ⟨rfl, hb⟩; refine ⟨_, rfl, ?_⟩; have n0_ := mk (blk_below BKz0.out hb); have n1_ := mk (below_step HB.out hb); clear BKz0; clear HB; have BKz0 := n0_; have HB := n1_; clear n0_ n1_; (try clear hb); obtain ⟨hcz36_0, hcz36_1, hcz36_2, hcz36_3, hcz36_4, hcz36_5, hcz36_6, hcz36_7, hcz36_8, hfz36_0, hfz36_1, hfz36_2, hfz36_3, hfz36_4, hfz36_5, hfz36_6, hfz36_7, hfz36_8⟩ := c9 BKz0.out))
    go_ret
    exact ⟨by rfl, by exact HB.out⟩
   rw [if_neg c6] at H
   have c6b0 : decide ((-16) ≤ a0_4) = false := decide_eq_false c6
   clear c6
   obtain rfl := Option.some.inj H
   go_enter Try.func103, Try.ntmps103
   go_wp2_with (first | ((with_reducible refine gate_dst (N := 2) rfl ?_); refine box_event (by rfl) (N := 2) (by rfl) (cs := #[.int .i64 a0_0, .int .i64 a0_1, .int .i64 a0_2, .slice A0_3 l0_3.length c0_3, .int .i64 a0_4, .int .i64 a0_5, .int .i64 a0_6, .int .i64 a0_7, .bool a0_8]) (t := 55) (by go_simp; done) ?_; intro gbz0 hg w37 hbox hb; have n0_ := mk (below_step HB.out hb); have n1_ := mk (hbox); have n2_ := mk ((by rw [hg]; exact (below_size HB.out) : w.heap.size ≤ gbz0)); have n3_ := mk ((by rw [hg]; exact (below_size HB.out) : w.heap.size ≤ gbz0)); clear HB; have HB := n0_; have BKz0 := n1_; have GWz0 := n2_; have GEz0 := n3_; clear n0_ n1_ n2_ n3_; clear hb hbox hg; obtain ⟨hcz38_0, hcz38_1, hcz38_2, hcz38_3, hcz38_4, hcz38_5, hcz38_6, hcz38_7, hcz38_8, hfz38_0, hfz38_1, hfz38_2, hfz38_3, hfz38_4, hfz38_5, hfz38_6, hfz38_7, -⟩ := c9 BKz0.out; have hfz38_8 := blk_frozen BKz0.out 8) | ((with_reducible refine gate_callee (f := 83) rfl ?_); refine goesL_ (some 7) rfl rfl Try.func83 (by kernel_rfl) rfl #[.agg #[.int .i64 a0_0, .int .i64 a0_1, .int .i64 a0_2, .slice A0_3 l0_3.length c0_3]] rfl (by (try simp only [List.map_toArray, List.map_cons, List.map_nil]); rfl) ?_; (with_reducible refine (impl_isImage.calls a0_0 a0_1 a0_2 _ _ l0_3 true _ ?side1 ?side2 A3.out).mono ?_); (case side1 => repeat (exact (Kd.C_below HR0_3.out HB.out))); (case side2 => exact HC0_3.out); rintro e w39 ⟨rfl, hb⟩; refine ⟨_, rfl, ?_⟩; have n0_ := mk (blk_below BKz0.out hb); have n1_ := mk (below_step HB.out hb); clear BKz0; clear HB; have BKz0 := n0_; have HB := n1_; clear n0_ n1_; (try clear hb); obtain ⟨hcz40_0, hcz40_1, hcz40_2, hcz40_3, hcz40_4, hcz40_5, hcz40_6, hcz40_7, hcz40_8, hfz40_0, hfz40_1, hfz40_2, hfz40_3, hfz40_4, hfz40_5, hfz40_6, hfz40_7, hfz40_8⟩ := c9 BKz0.out))
   go_ret
   exact ⟨by rfl, by exact HB.out⟩
  rw [if_neg c5] at H
  have c5b0 : (a0_2 == a1) = false := beq_eq_false_iff_ne.mpr c5
  have c5b1 : (a0_2 != a1) = true := bne_iff_ne.mpr c5
  obtain rfl := Option.some.inj H
  go_enter Try.func103, Try.ntmps103
  go_wp2_with (first | ((with_reducible refine gate_dst (N := 2) rfl ?_); refine box_event (by rfl) (N := 2) (by rfl) (cs := #[.int .i64 a0_0, .int .i64 a0_1, .int .i64 a0_2, .slice A0_3 l0_3.length c0_3, .int .i64 a0_4, .int .i64 a0_5, .int .i64 a0_6, .int .i64 a0_7, .bool a0_8]) (t := 55) (by go_simp; done) ?_; intro gbz0 hg w41 hbox hb; have n0_ := mk (below_step HB.out hb); have n1_ := mk (hbox); have n2_ := mk ((by rw [hg]; exact (below_size HB.out) : w.heap.size ≤ gbz0)); have n3_ := mk ((by rw [hg]; exact (below_size HB.out) : w.heap.size ≤ gbz0)); clear HB; have HB := n0_; have BKz0 := n1_; have GWz0 := n2_; have GEz0 := n3_; clear n0_ n1_ n2_ n3_; clear hb hbox hg; obtain ⟨hcz42_0, hcz42_1, hcz42_2, hcz42_3, hcz42_4, hcz42_5, hcz42_6, hcz42_7, hcz42_8, hfz42_0, hfz42_1, hfz42_2, hfz42_3, hfz42_4, hfz42_5, hfz42_6, hfz42_7, -⟩ := c9 BKz0.out; have hfz42_8 := blk_frozen BKz0.out 8) | ((with_reducible refine gate_callee (f := 83) rfl ?_); refine goesL_ (some 7) rfl rfl Try.func83 (by kernel_rfl) rfl #[.agg #[.int .i64 a0_0, .int .i64 a0_1, .int .i64 a0_2, .slice A0_3 l0_3.length c0_3]] rfl (by (try simp only [List.map_toArray, List.map_cons, List.map_nil]); rfl) ?_; (with_reducible refine (impl_isImage.calls a0_0 a0_1 a0_2 _ _ l0_3 true _ ?side1 ?side2 A3.out).mono ?_); (case side1 => repeat (exact (Kd.C_below HR0_3.out HB.out))); (case side2 => exact HC0_3.out); rintro e w43 ⟨rfl, hb⟩; refine ⟨_, rfl, ?_⟩; have n0_ := mk (blk_below BKz0.out hb); have n1_ := mk (below_step HB.out hb); clear BKz0; clear HB; have BKz0 := n0_; have HB := n1_; clear n0_ n1_; (try clear hb); obtain ⟨hcz44_0, hcz44_1, hcz44_2, hcz44_3, hcz44_4, hcz44_5, hcz44_6, hcz44_7, hcz44_8, hfz44_0, hfz44_1, hfz44_2, hfz44_3, hfz44_4, hfz44_5, hfz44_6, hfz44_7, hfz44_8⟩ := c9 BKz0.out))
  go_ret
  exact ⟨by rfl, by exact HB.out⟩
 replace c4 := Bool.eq_false_iff.mpr c4
 subst c4
 have H1 : (some false) = some r := by rw [if_neg (show ¬ (false = true) by decide)] at H; exact H
 clear H
 have H := H1
 clear H1
 obtain rfl := Option.some.inj H
 go_enter Try.func103, Try.ntmps103
 go_wp2_with (first | ((with_reducible refine gate_dst (N := 2) rfl ?_); refine box_event (by rfl) (N := 2) (by rfl) (cs := #[.int .i64 a0_0, .int .i64 a0_1, .int .i64 a0_2, .slice A0_3 l0_3.length c0_3, .int .i64 a0_4, .int .i64 a0_5, .int .i64 a0_6, .int .i64 a0_7, .bool a0_8]) (t := 55) (by go_simp; done) ?_; intro gbz0 hg w45 hbox hb; have n0_ := mk (below_step HB.out hb); have n1_ := mk (hbox); have n2_ := mk ((by rw [hg]; exact (below_size HB.out) : w.heap.size ≤ gbz0)); have n3_ := mk ((by rw [hg]; exact (below_size HB.out) : w.heap.size ≤ gbz0)); clear HB; have HB := n0_; have BKz0 := n1_; have GWz0 := n2_; have GEz0 := n3_; clear n0_ n1_ n2_ n3_; clear hb hbox hg; obtain ⟨hcz46_0, hcz46_1, hcz46_2, hcz46_3, hcz46_4, hcz46_5, hcz46_6, hcz46_7, hcz46_8, hfz46_0, hfz46_1, hfz46_2, hfz46_3, hfz46_4, hfz46_5, hfz46_6, hfz46_7, -⟩ := c9 BKz0.out; have hfz46_8 := blk_frozen BKz0.out 8) | ((with_reducible refine gate_callee (f := 83) rfl ?_); refine goesL_ (some 7) rfl rfl Try.func83 (by kernel_rfl) rfl #[.agg #[.int .i64 a0_0, .int .i64 a0_1, .int .i64 a0_2, .slice A0_3 l0_3.length c0_3]] rfl (by (try simp only [List.map_toArray, List.map_cons, List.map_nil]); rfl) ?_; (with_reducible refine (impl_isImage.calls a0_0 a0_1 a0_2 _ _ l0_3 false _ ?side1 ?side2 A3.out).mono ?_); (case side1 => repeat (exact (Kd.C_below HR0_3.out HB.out))); (case side2 => exact HC0_3.out); rintro e w47 ⟨rfl, hb⟩; refine ⟨_, rfl, ?_⟩; have n0_ := mk (blk_below BKz0.out hb); have n1_ := mk (below_step HB.out hb); clear BKz0; clear HB; have BKz0 := n0_; have HB := n1_; clear n0_ n1_; (try clear hb)))
 go_ret
 exact ⟨by rfl, by exact HB.out⟩

end Go.Proofs.Ytnofkbbcbpjhfaa.Q

namespace Go.Proofs.Ytnofkbbcbpjhfaa.Q
open Go.RowKit Go.Proofs.YtnofkbbcbpjhfaaW.PrintWords Go.Proofs.YtnofkbbcbpjhfaaW.PrintLast Go.Proofs.YtnofkbbcbpjhfaaW.PrintMore
attribute [local go_sem] max2_int min2_int max_two min_two max_three min_three max_four min_four
set_option linter.unusedVariables false
set_option linter.unusedSimpArgs false
def impl_Layer_box.f (a0_0 : Int) (a0_1 : Int) (a0_2 : Int) (l0_3 : List Int) (a0_4 : Int) (a0_5 : Int) (a0_6 : Int) (a0_7 : Int) (a0_8 : Bool) : Option (Int × Int × Int × Int) := some (a0_4, a0_5, a0_0, a0_1)
set_option maxHeartbeats 8000000 in
set_option maxRecDepth 100000 in
theorem impl_Layer_box.calls (a0_0 : Int) (a0_1 : Int) (a0_2 : Int) (A0_3 : Option Addr) (c0_3 : Nat) (l0_3 : List Int) (a0_4 : Int) (a0_5 : Int) (a0_6 : Int) (a0_7 : Int) (a0_8 : Bool) (r1 : Int) (r2 : Int) (r3 : Int) (r4 : Int) (w : World) (hr0_3 : Kd.C (Kd.int .i64) w A0_3 l0_3.length l0_3) (hc0_3 : l0_3.length ≤ c0_3) (h : impl_Layer_box.f a0_0 a0_1 a0_2 l0_3 a0_4 a0_5 a0_6 a0_7 a0_8 = some (r1, r2, r3, r4)) :
  Calls Try.prog 104 #[.agg #[.int .i64 a0_0, .int .i64 a0_1, .int .i64 a0_2, .slice A0_3 l0_3.length c0_3, .int .i64 a0_4, .int .i64 a0_5, .int .i64 a0_6, .int .i64 a0_7, .bool a0_8]] w fun e w' => e = .returned (.agg #[.int .i64 r1, .int .i64 r2, .int .i64 r3, .int .i64 r4]) ∧ Below w.heap.size w w' := by
 have hu55 := Try.underlying55
 have hu47 := Try.underlying47
 have HR0_3 := Aside0.mk hr0_3
 have HC0_3 := Aside0.mk hc0_3
 clear hr0_3 hc0_3
 have HB := Aside0.mk (Below.refl w.heap.size w)
 have H : (some (a0_4, a0_5, a0_0, a0_1)) = some (r1, r2, r3, r4) := h
 clear h
 simp only [Option.some.injEq, Prod.mk.injEq] at H
 obtain ⟨rfl, rfl, rfl, rfl⟩ := H
 go_enter Try.func104, Try.ntmps104
 go_wp2_with (first | ((with_reducible refine gate_dst (N := 1) rfl ?_); refine box_event (by rfl) (N := 1) (by rfl) (cs := #[.int .i64 a0_0, .int .i64 a0_1, .int .i64 a0_2, .slice A0_3 l0_3.length c0_3, .int .i64 a0_4, .int .i64 a0_5, .int .i64 a0_6, .int .i64 a0_7, .bool a0_8]) (t := 55) (by go_simp; done) ?_; intro gbz1 hg w2 hbox hb; replace HB := Aside0.mk (below_step HB.out hb); have BKz1 := Aside0.mk (hbox); clear hb hbox hg) | ((with_reducible refine gate_dst (N := 2) rfl ?_); refine box_event (by rfl) (N := 2) (by rfl) (cs := #[.int .i64 0, .int .i64 0, .int .i64 0, .int .i64 0]) (t := 47) (by go_simp; done) ?_; intro gbz0 hg w3 hbox hb; replace BKz1 := Aside0.mk (blk_below BKz1.out hb); have BKz0 := Aside0.mk (hbox); have GEz0 := Aside0.mk ((by rw [hg]; exact (below_size HB.out) : w.heap.size ≤ gbz0)); replace HB := Aside0.mk (below_step HB.out hb); clear hb hbox hg; obtain ⟨hcz5_0, hcz5_1, -, -, hcz5_4, hcz5_5, -⟩ := c9 BKz1.out; obtain ⟨hcz6_0, hcz6_1, hcz6_2, hcz6_3, hfz6_0, hfz6_1, hfz6_2, hfz6_3⟩ := c4 BKz0.out))
 refine bodyPost_ret (results_cell_row rfl _ _ gbz0 47 #[.int .i64 a0_4, .int .i64 a0_5, .int .i64 a0_0, .int .i64 a0_1] (0, 0) _ rfl (by refine blk_put (cs := #[.int .i64 a0_4, .int .i64 a0_5, .int .i64 a0_0, .int .i64 0]) ?_ 3 _ rfl; refine blk_put (cs := #[.int .i64 a0_4, .int .i64 a0_5, .int .i64 0, .int .i64 0]) ?_ 2 _ rfl; refine blk_put (cs := #[.int .i64 a0_4, .int .i64 0, .int .i64 0, .int .i64 0]) ?_ 1 _ rfl; refine blk_put (cs := #[.int .i64 0, .int .i64 0, .int .i64 0, .int .i64 0]) ?_ 0 _ rfl; exact BKz0.out) Try.underlying47 rfl (by kernel_rfl)) rfl ?_
 exact ⟨by rfl, by repeat (with_reducible first | exact HB.out | refine below_set ?_ GEz0.out)⟩

end Go.Proofs.Ytnofkbbcbpjhfaa.Q

namespace Go.Proofs.Ytnofkbbcbpjhfaa.Q
open Go.RowKit Go.Proofs.YtnofkbbcbpjhfaaW.PrintWords Go.Proofs.YtnofkbbcbpjhfaaW.PrintLast Go.Proofs.YtnofkbbcbpjhfaaW.PrintMore
open Go.Proofs.YtnofkbbcbpjhfaaW.PrintWords.Aside0 (mk)
attribute [local go_sem] max2_int min2_int max_two min_two max_three min_three max_four min_four
set_option linter.unusedVariables false
set_option linter.unusedSimpArgs false
mutual
def impl_DirtyTiles.j0 : Nat → Bool → Int → Int → Int → List Int → Int → Int → Int → List Int → Int → Int → Int → Int → Bool → Option (List Int)
 | 0, _, _, _, _, _, _, _, _, _, _, _, _, _, _ => none
 | k + 1, x18, xz4, xz5, xz6, xz7, xz8, xz9, xz10, xz11, xz12, xz13, xz14, xz15, xz16 => if x18 = true then (some ([] : List Int)) else ((impl_Layer_box.f xz8 xz9 xz10 xz11 xz12 xz13 xz14 xz15 xz16).bind fun btz0 => ((impl_tileBoxes.f k xz4 xz5 xz6 xz7).bind fun tz0 => (impl_DirtyTiles.l0 k ([] : List Int) tz0 (tz0.length : Int) 0 btz0.1 btz0.2.1 btz0.2.2.1 btz0.2.2.2)))
def impl_DirtyTiles.l0 : Nat → List Int → List S47 → Int → Int → Int → Int → Int → Int → Option (List Int)
 | 0, _, _, _, _, _, _, _, _ => none
 | k + 1, x5, x23, x24, x25, xz0, xz1, xz2, xz3 => if x25 < x24 then (if 0 ≤ x25 then (if x25 < (x23.length : Int) then (if xz0 < (wrap64 (((rd_T47 x23 x25).f0) + ((rd_T47 x23 x25).f2))) then (if ((rd_T47 x23 x25).f0) < (wrap64 (xz0 + xz2)) then (if xz1 < (wrap64 (((rd_T47 x23 x25).f1) + ((rd_T47 x23 x25).f3))) then (impl_DirtyTiles.j2 k x5 x25 x23 x24 x25 (decide (((rd_T47 x23 x25).f1) < (wrap64 (xz1 + xz3)))) xz0 xz1 xz2 xz3) else (impl_DirtyTiles.j2 k x5 x25 x23 x24 x25 false xz0 xz1 xz2 xz3)) else (impl_DirtyTiles.j2 k x5 x25 x23 x24 x25 false xz0 xz1 xz2 xz3)) else (impl_DirtyTiles.j2 k x5 x25 x23 x24 x25 false xz0 xz1 xz2 xz3)) else none) else none) else (some x5)
def impl_DirtyTiles.j2 : Nat → List Int → Int → List S47 → Int → Int → Bool → Int → Int → Int → Int → Option (List Int)
 | 0, _, _, _, _, _, _, _, _, _, _ => none
 | k + 1, x5, x7, x23, x24, x25, x67, xz0, xz1, xz2, xz3 => if x67 = true then (if x5.length < 17592186044416 then (impl_DirtyTiles.l0 k (x5 ++ [x7]) x23 x24 (wrap64 (x25 + 1)) xz0 xz1 xz2 xz3) else none) else (impl_DirtyTiles.l0 k x5 x23 x24 (wrap64 (x25 + 1)) xz0 xz1 xz2 xz3)
end
def impl_DirtyTiles.f (k : Nat) (a0_0 : Int) (a0_1 : Int) (a0_2 : Int) (l0_3 : List Int) (a1_0 : Int) (a1_1 : Int) (a1_2 : Int) (l1_3 : List Int) (a1_4 : Int) (a1_5 : Int) (a1_6 : Int) (a1_7 : Int) (a1_8 : Bool) : Option (List Int) := (impl_isImage.f a0_0 a0_1 a0_2 l0_3).bind fun tz6 => (if tz6 = true then ((impl_isLayer.f a1_0 a1_1 a1_2 l1_3 a1_4 a1_5 a1_6 a1_7 a1_8 a0_2).bind fun tz5 => (impl_DirtyTiles.j0 k (!tz5) a0_0 a0_1 a0_2 l0_3 a1_0 a1_1 a1_2 l1_3 a1_4 a1_5 a1_6 a1_7 a1_8)) else (impl_DirtyTiles.j0 k true a0_0 a0_1 a0_2 l0_3 a1_0 a1_1 a1_2 l1_3 a1_4 a1_5 a1_6 a1_7 a1_8))
theorem impl_DirtyTiles.mono_l : ∀ k, (∀ y0 y1 y2 y3 y4 y5 y6 y7 y8 y9 y10 y11 y12 y13, LeO (impl_DirtyTiles.j0 k y0 y1 y2 y3 y4 y5 y6 y7 y8 y9 y10 y11 y12 y13) (impl_DirtyTiles.j0 (k + 1) y0 y1 y2 y3 y4 y5 y6 y7 y8 y9 y10 y11 y12 y13)) ∧ (∀ y0 y1 y2 y3 y4 y5 y6 y7, LeO (impl_DirtyTiles.l0 k y0 y1 y2 y3 y4 y5 y6 y7) (impl_DirtyTiles.l0 (k + 1) y0 y1 y2 y3 y4 y5 y6 y7)) ∧ (∀ y0 y1 y2 y3 y4 y5 y6 y7 y8 y9, LeO (impl_DirtyTiles.j2 k y0 y1 y2 y3 y4 y5 y6 y7 y8 y9) (impl_DirtyTiles.j2 (k + 1) y0 y1 y2 y3 y4 y5 y6 y7 y8 y9))
 | 0 => ⟨fun _ _ _ _ _ _ _ _ _ _ _ _ _ _ r h => by simp [impl_DirtyTiles.j0] at h, fun _ _ _ _ _ _ _ _ r h => by simp [impl_DirtyTiles.l0] at h, fun _ _ _ _ _ _ _ _ _ _ r h => by simp [impl_DirtyTiles.j2] at h⟩
 | k + 1 => by
  obtain ⟨ih0, ih1, ih2⟩ := impl_DirtyTiles.mono_l k
  refine ⟨?_, ?_, ?_⟩
  ·intro y0 y1 y2 y3 y4 y5 y6 y7 y8 y9 y10 y11 y12 y13
   unfold impl_DirtyTiles.j0
   repeat' first | (with_reducible exact ih1 _ _ _ _ _ _ _ _) | (with_reducible exact impl_tileBoxes.mono _ _ _ _ _) | (with_reducible exact LeO.refl _) | (with_reducible refine LeO.ite ?_ ?_) | (with_reducible refine LeO.bind ?_ (fun _ => ?_))
  ·intro y0 y1 y2 y3 y4 y5 y6 y7
   unfold impl_DirtyTiles.l0
   repeat' first | (with_reducible exact ih2 _ _ _ _ _ _ _ _ _ _) | (with_reducible exact LeO.refl _) | (with_reducible refine LeO.ite ?_ ?_)
  intro y0 y1 y2 y3 y4 y5 y6 y7 y8 y9
  unfold impl_DirtyTiles.j2
  repeat' first | (with_reducible exact ih1 _ _ _ _ _ _ _ _) | (with_reducible exact LeO.refl _) | (with_reducible refine LeO.ite ?_ ?_)
theorem impl_DirtyTiles.mono : ∀ a0 a1 a2 a3 a4 a5 a6 a7 a8 a9 a10 a11 a12 k, LeO (impl_DirtyTiles.f k a0 a1 a2 a3 a4 a5 a6 a7 a8 a9 a10 a11 a12) (impl_DirtyTiles.f (k + 1) a0 a1 a2 a3 a4 a5 a6 a7 a8 a9 a10 a11 a12) := by
 intro a0 a1 a2 a3 a4 a5 a6 a7 a8 a9 a10 a11 a12 k
 obtain ⟨ih0, ih1, ih2⟩ := impl_DirtyTiles.mono_l k
 unfold impl_DirtyTiles.f
 repeat' first | (with_reducible exact ih0 _ _ _ _ _ _ _ _ _ _ _ _ _ _) | (with_reducible exact LeO.refl _) | (with_reducible refine LeO.ite ?_ ?_) | (with_reducible refine LeO.bind ?_ (fun _ => ?_))
set_option maxHeartbeats 8000000 in
set_option maxRecDepth 100000 in
theorem impl_DirtyTiles.calls (k : Nat) (a0_0 : Int) (a0_1 : Int) (a0_2 : Int) (A0_3 : Option Addr) (c0_3 : Nat) (l0_3 : List Int) (a1_0 : Int) (a1_1 : Int) (a1_2 : Int) (A1_3 : Option Addr) (c1_3 : Nat) (l1_3 : List Int) (a1_4 : Int) (a1_5 : Int) (a1_6 : Int) (a1_7 : Int) (a1_8 : Bool) (r : List Int) (w : World) (hr0_3 : Kd.C (Kd.int .i64) w A0_3 l0_3.length l0_3) (hc0_3 : l0_3.length ≤ c0_3) (hr1_3 : Kd.C (Kd.int .i64) w A1_3 l1_3.length l1_3) (hc1_3 : l1_3.length ≤ c1_3) (h : impl_DirtyTiles.f k a0_0 a0_1 a0_2 l0_3 a1_0 a1_1 a1_2 l1_3 a1_4 a1_5 a1_6 a1_7 a1_8 = some r) :
  Calls Try.prog 42 #[.agg #[.int .i64 a0_0, .int .i64 a0_1, .int .i64 a0_2, .slice A0_3 l0_3.length c0_3], .agg #[.int .i64 a1_0, .int .i64 a1_1, .int .i64 a1_2, .slice A1_3 l1_3.length c1_3, .int .i64 a1_4, .int .i64 a1_5, .int .i64 a1_6, .int .i64 a1_7, .bool a1_8]] w fun e w' => ∃ v0_ : Value, e = .returned v0_ ∧ Kd.R (Kd.int .i64) 3 w' w.heap.size (fun _ => True) v0_ r ∧ Below w.heap.size w w' := by
 have hu27 := Try.underlying27
 have hu55 := Try.underlying55
 have hu47 := Try.underlying47
 have HR0_3 := mk hr0_3
 have HC0_3 := mk hc0_3
 clear hr0_3 hc0_3
 have HR1_3 := mk hr1_3
 have HC1_3 := mk hc1_3
 clear hr1_3 hc1_3
 have HB := mk (Below.refl w.heap.size w)
 have H : ((impl_isImage.f a0_0 a0_1 a0_2 l0_3).bind fun tz6 => (if tz6 = true then ((impl_isLayer.f a1_0 a1_1 a1_2 l1_3 a1_4 a1_5 a1_6 a1_7 a1_8 a0_2).bind fun tz5 => (impl_DirtyTiles.j0 k (!tz5) a0_0 a0_1 a0_2 l0_3 a1_0 a1_1 a1_2 l1_3 a1_4 a1_5 a1_6 a1_7 a1_8)) else (impl_DirtyTiles.j0 k true a0_0 a0_1 a0_2 l0_3 a1_0 a1_1 a1_2 l1_3 a1_4 a1_5 a1_6 a1_7 a1_8))) = some r := h
 clear h
 have HC3 := mk H
 clear H
 go_enter Try.func42, Try.ntmps42
 go_upto_region 1 with (first | ((with_reducible refine gate_dst (N := 2) rfl ?_); refine box_event (by rfl) (N := 2) (by rfl) (cs := #[.int .i64 a0_0, .int .i64 a0_1, .int .i64 a0_2, .slice A0_3 l0_3.length c0_3]) (t := 27) (by go_simp; done) ?_; intro gbz3 hg w4 hbox hb; have BKz0 := mk (hbox); have GWz0 := mk ((by rw [hg]; exact (below_size HB.out) : w.heap.size ≤ gbz3)); have GEz2 := mk ((by rw [hg]; exact (below_size HB.out) : w.heap.size ≤ gbz3)); replace HB := mk (below_step HB.out hb); clear hb hbox hg) | ((with_reducible refine gate_dst (N := 3) rfl ?_); refine box_event (by rfl) (N := 3) (by rfl) (cs := #[.int .i64 a1_0, .int .i64 a1_1, .int .i64 a1_2, .slice A1_3 l1_3.length c1_3, .int .i64 a1_4, .int .i64 a1_5, .int .i64 a1_6, .int .i64 a1_7, .bool a1_8]) (t := 55) (by go_simp; done) ?_; intro gbz2 hg w5 hbox hb; have BKz1 := mk (hbox); have GWz1 := mk ((by rw [hg]; exact (below_size HB.out) : w.heap.size ≤ gbz2)); have GEz3 := mk ((by rw [hg]; exact (below_size HB.out) : w.heap.size ≤ gbz2)); replace HB := mk (below_step HB.out hb); have NBz10 := mk ((by rw [hg]; exact Nat.ne_of_lt (blk_lt BKz0.out) : gbz3 ≠ gbz2)); have NBz11 := mk ((by rw [hg]; exact Nat.ne_of_gt (blk_lt BKz0.out) : gbz2 ≠ gbz3)); replace BKz0 := mk (blk_below BKz0.out hb); clear hb hbox hg))
 go_cut [18] (fun v18 wc => ∃ (kq : Nat) (x18_2 : Bool), v18 = .bool x18_2 ∧ Aside0 (impl_DirtyTiles.j0 kq x18_2 a0_0 a0_1 a0_2 l0_3 a1_0 a1_1 a1_2 l1_3 a1_4 a1_5 a1_6 a1_7 a1_8 = some r) ∧ Aside0 (kq ≤ k) ∧ Aside0 (wc.heap[gbz3]? = some (.cells #[.int .i64 a0_0, .int .i64 a0_1, .int .i64 a0_2, (.slice A0_3 l0_3.length c0_3)] 27 (0, 0))) ∧ Aside0 (wc.heap[gbz2]? = some (.cells #[.int .i64 a1_0, .int .i64 a1_1, .int .i64 a1_2, (.slice A1_3 l1_3.length c1_3), .int .i64 a1_4, .int .i64 a1_5, .int .i64 a1_6, .int .i64 a1_7, .bool a1_8] 55 (0, 0))) ∧ Aside0 (Below w.heap.size w wc))
 case first =>
  have H := HC3.out
  clear HC3
  replace H := Option.bind_eq_some_iff.mp H
  obtain ⟨tz6, A60, H⟩ := H
  replace H : (if tz6 = true then ((impl_isLayer.f a1_0 a1_1 a1_2 l1_3 a1_4 a1_5 a1_6 a1_7 a1_8 a0_2).bind fun tz5 => (impl_DirtyTiles.j0 k (!tz5) a0_0 a0_1 a0_2 l0_3 a1_0 a1_1 a1_2 l1_3 a1_4 a1_5 a1_6 a1_7 a1_8)) else (impl_DirtyTiles.j0 k true a0_0 a0_1 a0_2 l0_3 a1_0 a1_1 a1_2 l1_3 a1_4 a1_5 a1_6 a1_7 a1_8)) = some r := H
  have A6 := mk A60
  clear A60
  by_cases c7 : tz6 = true
  ·subst c7
   have H1 : ((impl_isLayer.f a1_0 a1_1 a1_2 l1_3 a1_4 a1_5 a1_6 a1_7 a1_8 a0_2).bind fun tz5 => (impl_DirtyTiles.j0 k (!tz5) a0_0 a0_1 a0_2 l0_3 a1_0 a1_1 a1_2 l1_3 a1_4 a1_5 a1_6 a1_7 a1_8)) = some r := by rw [if_pos rfl] at H; exact H
   clear H
   have H := H1
   clear H1
   replace H := Option.bind_eq_some_iff.mp H
   obtain ⟨tz5, A80, H⟩ := H
   replace H : (impl_DirtyTiles.j0 k (!tz5) a0_0 a0_1 a0_2 l0_3 a1_0 a1_1 a1_2 l1_3 a1_4 a1_5 a1_6 a1_7 a1_8) = some r := H
   have A8 := mk A80
   clear A80
   have H' := mk H
   clear H
   have hnb9 := NBz10.out
   have hnc9 := NBz11.out
   obtain ⟨hcz10_0, hcz10_1, hcz10_2, hcz10_3, hfz10_0, hfz10_1, hfz10_2, hfz10_3⟩ := c4 BKz0.out
   go_wp2_with (first | ((with_reducible refine gate_callee (f := 83) rfl ?_); refine goesL_ (some 10) rfl rfl Try.func83 (by kernel_rfl) rfl #[.agg #[.int .i64 a0_0, .int .i64 a0_1, .int .i64 a0_2, .slice A0_3 l0_3.length c0_3]] rfl (by (try simp only [List.map_toArray, List.map_cons, List.map_nil]); rfl) ?_; (with_reducible refine (impl_isImage.calls a0_0 a0_1 a0_2 _ _ l0_3 true _ ?side1 ?side2 A6.out).mono ?_); (case side1 => repeat (exact (Kd.C_below HR0_3.out HB.out))); (case side2 => exact HC0_3.out); rintro e w11 ⟨rfl, hb⟩; refine ⟨_, rfl, ?_⟩; replace BKz0 := mk (blk_below BKz0.out hb); replace BKz1 := mk (blk_below BKz1.out hb); replace HB := mk (below_step HB.out hb); (try clear hb); obtain ⟨hcz12_0, hcz12_1, hcz12_2, hcz12_3, hcz12_4, hcz12_5, hcz12_6, hcz12_7, hcz12_8, hfz12_0, hfz12_1, hfz12_2, hfz12_3, hfz12_4, hfz12_5, hfz12_6, hfz12_7, hfz12_8⟩ := c9 BKz1.out; obtain ⟨hcz13_0, hcz13_1, hcz13_2, hcz13_3, hfz13_0, hfz13_1, hfz13_2, -⟩ := c4 BKz0.out; have hfz13_3 := blk_frozen BKz0.out 3) | (go_at_call 103; (with_reducible refine (impl_isLayer.calls a1_0 a1_1 a1_2 _ _ l1_3 a1_4 a1_5 a1_6 a1_7 a1_8 a0_2 tz5 _ ?side1 ?side2 A8.out).mono ?_); (case side1 => repeat (exact (Kd.C_below HR1_3.out HB.out))); (case side2 => exact HC1_3.out); rintro e w14 ⟨rfl, hb⟩; replace BKz0 := mk (blk_below BKz0.out hb); replace BKz1 := mk (blk_below BKz1.out hb); replace HB := mk (below_step HB.out hb); (try clear hb)))
   go_meet
   case rel => exact ⟨_, (!tz5), (by rfl), H', ⟨by omega⟩, BKz0, BKz1, HB⟩
  replace c7 := Bool.eq_false_iff.mpr c7
  subst c7
  have H1 : (impl_DirtyTiles.j0 k true a0_0 a0_1 a0_2 l0_3 a1_0 a1_1 a1_2 l1_3 a1_4 a1_5 a1_6 a1_7 a1_8) = some r := by rw [if_neg (show ¬ (false = true) by decide)] at H; exact H
  clear H
  have H := H1
  clear H1
  have H' := mk H
  clear H
  have hnb15 := NBz10.out
  have hnc15 := NBz11.out
  obtain ⟨hcz16_0, hcz16_1, hcz16_2, hcz16_3, hfz16_0, hfz16_1, hfz16_2, hfz16_3⟩ := c4 BKz0.out
  go_wp2_with (first | ((with_reducible refine gate_callee (f := 83) rfl ?_); refine goesL_ (some 10) rfl rfl Try.func83 (by kernel_rfl) rfl #[.agg #[.int .i64 a0_0, .int .i64 a0_1, .int .i64 a0_2, .slice A0_3 l0_3.length c0_3]] rfl (by (try simp only [List.map_toArray, List.map_cons, List.map_nil]); rfl) ?_; (with_reducible refine (impl_isImage.calls a0_0 a0_1 a0_2 _ _ l0_3 false _ ?side1 ?side2 A6.out).mono ?_); (case side1 => repeat (exact (Kd.C_below HR0_3.out HB.out))); (case side2 => exact HC0_3.out); rintro e w17 ⟨rfl, hb⟩; refine ⟨_, rfl, ?_⟩; replace BKz0 := mk (blk_below BKz0.out hb); replace BKz1 := mk (blk_below BKz1.out hb); replace HB := mk (below_step HB.out hb); (try clear hb)))
  go_meet
  case rel => exact ⟨_, (true), (by rfl), H', ⟨by omega⟩, BKz0, BKz1, HB⟩
 case rest =>
  clear HC3
  obtain ⟨kq, x18_2, rfl, HA, HJ2, BKz0, BKz1, HB⟩ := hcut
  cases kq with
  | zero => exact absurd HA.out (by simp [impl_DirtyTiles.j0])
  | succ kj2 =>
   have H := HA.out
   clear HA
   simp only [impl_DirtyTiles.j0] at H
   by_cases c18 : x18_2 = true
   ·subst c18
    have H1 : (some ([] : List Int)) = some r := by rw [if_pos rfl] at H; exact H
    clear H
    have H := H1
    clear H1
    obtain rfl := Option.some.inj H
    go_wp2
    go_ret
    exact ⟨_, by rfl, by exact Kd.R_nil _ _ _ _ _, by exact HB.out⟩
   replace c18 := Bool.eq_false_iff.mpr c18
   subst c18
   have H1 : ((impl_Layer_box.f a1_0 a1_1 a1_2 l1_3 a1_4 a1_5 a1_6 a1_7 a1_8).bind fun btz0 => ((impl_tileBoxes.f kj2 a0_0 a0_1 a0_2 l0_3).bind fun tz0 => (impl_DirtyTiles.l0 kj2 ([] : List Int) tz0 (tz0.length : Int) 0 btz0.1 btz0.2.1 btz0.2.2.1 btz0.2.2.2))) = some r := by rw [if_neg (show ¬ (false = true) by decide)] at H; exact H
   clear H
   have H := H1
   clear H1
   obtain ⟨yz0, hyz0⟩ : ∃ y_ : List Int, y_ = ([] : List Int) := ⟨_, rfl⟩
   replace H : ((impl_Layer_box.f a1_0 a1_1 a1_2 l1_3 a1_4 a1_5 a1_6 a1_7 a1_8).bind fun btz0 => ((impl_tileBoxes.f kj2 a0_0 a0_1 a0_2 l0_3).bind fun tz0 => (impl_DirtyTiles.l0 kj2 yz0 tz0 (tz0.length : Int) 0 btz0.1 btz0.2.1 btz0.2.2.1 btz0.2.2.2))) = some r := by (rw [hyz0]; with_reducible exact H)
   have Nyz0 := mk hyz0
   clear hyz0
   replace H := Option.bind_eq_some_iff.mp H
   obtain ⟨⟨tz1, tz2, tz3, tz4⟩, A190, H⟩ := H
   replace H : ((impl_tileBoxes.f kj2 a0_0 a0_1 a0_2 l0_3).bind fun tz0 => (impl_DirtyTiles.l0 kj2 yz0 tz0 (tz0.length : Int) 0 tz1 tz2 tz3 tz4)) = some r := H
   have A19 := mk A190
   clear A190
   replace H := Option.bind_eq_some_iff.mp H
   obtain ⟨tz0, A200, H⟩ := H
   replace H : (impl_DirtyTiles.l0 kj2 yz0 tz0 (tz0.length : Int) 0 tz1 tz2 tz3 tz4) = some r := H
   have A20 := mk A200
   clear A200
   have H' := mk H
   clear H
   go_wp2_with (first | ((with_reducible refine gate_dst (N := 19) rfl ?_); refine Kd.R_lit (Kd.int .i64) _ 3 ?hg (N := 19) ?hd (xs := ([] : List Int)) (inner := []) (ok := fun _ => True) (okp := fun _ => True) ?hr ?hp (fun _ hk => hk) trivial (Below.refl _ _) (Nat.le_refl _) (by simp) ?_; (case hd => rfl); (case hg => rfl); (case hr => (go_simp; done)); (case hp => exact (Reps.none _ _)); intro vz0 w21 ho22 hb hg_ hnew_; clear hg_ hnew_; (rw [← Nyz0.out] at ho22); have HOz0 := mk (Kd.R_lower ho22 (below_size HB.out)); replace BKz0 := mk (blk_below BKz0.out hb); replace BKz1 := mk (blk_below BKz1.out hb); replace HB := mk (below_step HB.out hb); clear hb ho22; have hnb23 := NBz11.out; have hnc23 := NBz10.out; obtain ⟨hcz24_0, hcz24_1, hcz24_2, hcz24_3, hcz24_4, hcz24_5, hcz24_6, hcz24_7, hcz24_8, hfz24_0, hfz24_1, hfz24_2, hfz24_3, hfz24_4, hfz24_5, hfz24_6, hfz24_7, -⟩ := c9 BKz1.out; have hfz24_8 := blk_frozen BKz1.out 8) | ((with_reducible refine gate_callee (f := 104) rfl ?_); refine goesL_ (some 21) rfl rfl Try.func104 (by kernel_rfl) rfl #[.agg #[.int .i64 a1_0, .int .i64 a1_1, .int .i64 a1_2, .slice A1_3 l1_3.length c1_3, .int .i64 a1_4, .int .i64 a1_5, .int .i64 a1_6, .int .i64 a1_7, .bool a1_8]] rfl (by (try simp only [List.map_toArray, List.map_cons, List.map_nil]); rfl) ?_; (with_reducible refine (impl_Layer_box.calls a1_0 a1_1 a1_2 _ _ l1_3 a1_4 a1_5 a1_6 a1_7 a1_8 tz1 tz2 tz3 tz4 _ ?side1 ?side2 A19.out).mono ?_); (case side1 => repeat (exact (Kd.C_below HR1_3.out HB.out))); (case side2 => exact HC1_3.out); rintro e w25 ⟨rfl, hb⟩; refine ⟨_, rfl, ?_⟩; replace HOz0 := mk (Kd.R_below HOz0.out hb); replace BKz0 := mk (blk_below BKz0.out hb); replace BKz1 := mk (blk_below BKz1.out hb); replace HB := mk (below_step HB.out hb); (try clear hb)) | ((with_reducible refine gate_dst (N := 6) rfl ?_); refine box_event (by rfl) (N := 6) (by rfl) (cs := #[.int .i64 0, .int .i64 0, .int .i64 0, .int .i64 0]) (t := 47) (by go_simp; done) ?_; intro gbz1 hg w26 hbox hb; replace HOz0 := mk (Kd.R_below HOz0.out hb); have BKz2 := mk (hbox); have GWz2 := mk ((by rw [hg]; exact (below_size HB.out) : w.heap.size ≤ gbz1)); have GEz1 := mk ((by rw [hg]; exact (below_size HB.out) : w.heap.size ≤ gbz1)); replace HB := mk (below_step HB.out hb); have NBz3 := mk ((by rw [hg]; exact Nat.ne_of_lt (blk_lt BKz0.out) : gbz3 ≠ gbz1)); have NBz5 := mk ((by rw [hg]; exact Nat.ne_of_gt (blk_lt BKz0.out) : gbz1 ≠ gbz3)); replace BKz0 := mk (blk_below BKz0.out hb); have NBz4 := mk ((by rw [hg]; exact Nat.ne_of_lt (blk_lt BKz1.out) : gbz2 ≠ gbz1)); have NBz6 := mk ((by rw [hg]; exact Nat.ne_of_gt (blk_lt BKz1.out) : gbz1 ≠ gbz2)); replace BKz1 := mk (blk_below BKz1.out hb); clear hb hbox hg; have hnb27 := NBz5.out; have hnc27 := NBz3.out; have hnb28 := NBz6.out; have hnc28 := NBz4.out; obtain ⟨hcz29_0, hcz29_1, hcz29_2, hcz29_3, hfz29_0, hfz29_1, hfz29_2, hfz29_3⟩ := c4 BKz2.out; obtain ⟨hcz30_0, hcz30_1, hcz30_2, hcz30_3, hfz30_0, hfz30_1, hfz30_2, -⟩ := c4 BKz0.out; have hfz30_3 := blk_frozen BKz0.out 3) | ((with_reducible refine gate_callee (f := 92) rfl ?_); refine goesL_ (some 23) rfl rfl Try.func92 (by kernel_rfl) rfl #[.agg #[.int .i64 a0_0, .int .i64 a0_1, .int .i64 a0_2, .slice A0_3 l0_3.length c0_3]] rfl (by (try simp only [List.map_toArray, List.map_cons, List.map_nil]); rfl) ?_; (with_reducible refine (impl_tileBoxes.calls kj2 a0_0 a0_1 a0_2 _ _ l0_3 tz0 _ ?side1 ?side2 A20.out).mono ?_); (case side1 => exact Kd.C_below HR0_3.out (by repeat (with_reducible first | exact HB.out | refine below_set ?_ GEz1.out))); (case side2 => exact HC0_3.out); rintro e w31 ⟨vz1, rfl, ho0, hb⟩; refine ⟨_, rfl, ?_⟩; replace HOz0 := mk (Kd.R_below (by exact (Kd.R_mono (Kd.R_far (p := ⟨gbz1, 3, none⟩) (Kd.R_far (p := ⟨gbz1, 2, none⟩) (Kd.R_far (p := ⟨gbz1, 1, none⟩) (Kd.R_far (p := ⟨gbz1, 0, none⟩) (Kd.R_types HOz0.out BKz2.out (by decide)) (fun _ hk => hk.2) (.int .i64 tz1)) (fun _ hk => hk.2) (.int .i64 tz2)) (fun _ hk => hk.2) (.int .i64 tz3)) (fun _ hk => hk.2) (.int .i64 tz4)) (fun _ h_ => h_.1))) hb); have HOz1 := mk (Kd.R_lower (Kd.R_newB ho0 (g := gbz1) (o := .cells #[.int .i64 tz1, .int .i64 tz2, .int .i64 tz3, .int .i64 tz4] 47 (0, 0)) (by refine blk_put (cs := #[.int .i64 tz1, .int .i64 tz2, .int .i64 tz3, .int .i64 0]) ?_ 3 _ rfl; refine blk_put (cs := #[.int .i64 tz1, .int .i64 tz2, .int .i64 0, .int .i64 0]) ?_ 2 _ rfl; refine blk_put (cs := #[.int .i64 tz1, .int .i64 0, .int .i64 0, .int .i64 0]) ?_ 1 _ rfl; refine blk_put (cs := #[.int .i64 0, .int .i64 0, .int .i64 0, .int .i64 0]) ?_ 0 _ rfl; exact BKz2.out)) (below_size (by repeat (with_reducible first | exact HB.out | refine below_set ?_ GEz1.out)))); replace BKz0 := mk (blk_below (g := gbz3) (o := .cells #[.int .i64 a0_0, .int .i64 a0_1, .int .i64 a0_2, .slice A0_3 l0_3.length c0_3] 27 (0, 0)) (by refine blk_far ?_ NBz3.out _; refine blk_far ?_ NBz3.out _; refine blk_far ?_ NBz3.out _; refine blk_far ?_ NBz3.out _; exact BKz0.out) hb); replace BKz1 := mk (blk_below (g := gbz2) (o := .cells #[.int .i64 a1_0, .int .i64 a1_1, .int .i64 a1_2, .slice A1_3 l1_3.length c1_3, .int .i64 a1_4, .int .i64 a1_5, .int .i64 a1_6, .int .i64 a1_7, .bool a1_8] 55 (0, 0)) (by refine blk_far ?_ NBz4.out _; refine blk_far ?_ NBz4.out _; refine blk_far ?_ NBz4.out _; refine blk_far ?_ NBz4.out _; exact BKz1.out) hb); replace BKz2 := mk (blk_below (g := gbz1) (o := .cells #[.int .i64 tz1, .int .i64 tz2, .int .i64 tz3, .int .i64 tz4] 47 (0, 0)) (by refine blk_put (cs := #[.int .i64 tz1, .int .i64 tz2, .int .i64 tz3, .int .i64 0]) ?_ 3 _ rfl; refine blk_put (cs := #[.int .i64 tz1, .int .i64 tz2, .int .i64 0, .int .i64 0]) ?_ 2 _ rfl; refine blk_put (cs := #[.int .i64 tz1, .int .i64 0, .int .i64 0, .int .i64 0]) ?_ 1 _ rfl; refine blk_put (cs := #[.int .i64 0, .int .i64 0, .int .i64 0, .int .i64 0]) ?_ 0 _ rfl; exact BKz2.out) hb); replace HB := mk (below_step (by repeat (with_reducible first | exact HB.out | refine below_set ?_ GEz1.out)) hb); (try clear hb); (try clear ho0); obtain ⟨Ao32, co32, eo32⟩ := Kd.R_slice HOz1.out; subst eo32))
   go_loopg [5, 25] kj2 (fun kq v5 v25 w' => ∃ (x5_2 : List Int) (x25_2 : Int), v25 = .int .i64 x25_2 ∧ Aside0 (impl_DirtyTiles.l0 kq x5_2 tz0 (tz0.length : Int) x25_2 tz1 tz2 tz3 tz4 = some r) ∧ Aside0 (kq ≤ kj2) ∧ Aside0 (Kd.R (Kd.int .i64) 3 w' w.heap.size (fun _ => True) v5 x5_2) ∧ Aside0 (Kd.R k47 47 w' w.heap.size (fun k_ => k_ ≠ gbz1) (.slice Ao32 tz0.length co32) tz0) ∧ Aside0 (w'.heap[gbz3]? = some (.cells #[.int .i64 a0_0, .int .i64 a0_1, .int .i64 a0_2, (.slice A0_3 l0_3.length c0_3)] 27 (0, 0))) ∧ Aside0 (w'.heap[gbz2]? = some (.cells #[.int .i64 a1_0, .int .i64 a1_1, .int .i64 a1_2, (.slice A1_3 l1_3.length c1_3), .int .i64 a1_4, .int .i64 a1_5, .int .i64 a1_6, .int .i64 a1_7, .bool a1_8] 55 (0, 0))) ∧ Aside0 (w'.heap[gbz1]? = some (.cells #[.int .i64 tz1, .int .i64 tz2, .int .i64 tz3, .int .i64 tz4] 47 (0, 0))) ∧ Aside0 (Below w.heap.size w w'))
   case atStart => exact ⟨(yz0), (0), (by rfl), H', ⟨Nat.le_refl _⟩, HOz0, ⟨by exact Kd.R_mono HOz1.out (fun _ hk => hk.2)⟩, BKz0, BKz1, BKz2, HB⟩
   case round =>
    clear H'
    obtain ⟨x5_2, x25_2, rfl, HA, HK2, HO_5, HO_23, BKz0, BKz1, BKz2, HB⟩ := hrel
    cases gk with
    | zero => exact absurd HA.out (by simp [impl_DirtyTiles.l0])
    | succ k2 =>
     have H := HA.out
     clear HA
     simp only [impl_DirtyTiles.l0] at H
     by_cases c33 : x25_2 < (tz0.length : Int)
     ·rw [if_pos c33] at H
      have c33b0 : decide (x25_2 < (tz0.length : Int)) = true := decide_eq_true c33
      clear c33
      by_cases c34 : 0 ≤ x25_2
      ·rw [if_pos c34] at H
       have c34b0 : decide (0 ≤ x25_2) = true := decide_eq_true c34
       clear c34
       by_cases c35 : x25_2 < (tz0.length : Int)
       ·rw [if_pos c35] at H
        have c35b0 : decide (x25_2 < (tz0.length : Int)) = true := decide_eq_true c35
        clear c35
        have HC36 := mk H
        clear H
        have p43016 : 0 ≤ (x25_2 : Int) := of_decide_eq_true (by (with_reducible assumption))
        have q43016 : x25_2 < (tz0.length : Int) := of_decide_eq_true (by (with_reducible assumption))
        obtain ⟨ad43016, e43016, hx43016_0, hx43016_1, hx43016_2, hx43016_3⟩ := at_T47 (Kd.R_reads' HO_23.out).2.2 x25_2 p43016 q43016
        cases e43016
        replace p43016 := eq_true p43016
        replace q43016 := eq_true q43016
        go_upto_region 8 with (first | ((with_reducible refine gate_dst (N := 8) rfl ?_); refine box_event (by rfl) (N := 8) (by rfl) (cs := #[.int .i64 0, .int .i64 0, .int .i64 0, .int .i64 0]) (t := 47) (by go_simp; done) ?_; intro gbz0 hg w37 hbox hb; replace HO_5 := mk (Kd.R_below HO_5.out hb); replace HO_23 := mk (Kd.R_below (Kd.R_elderB HO_23.out gbz0 (Nat.le_of_eq hg.symm)) hb); have BKz3 := mk (hbox); have GWz3 := mk ((by rw [hg]; exact (below_size HB.out) : w.heap.size ≤ gbz0)); have GEz0 := mk ((by rw [hg]; exact (below_size HB.out) : w.heap.size ≤ gbz0)); replace HB := mk (below_step HB.out hb); have NBz0 := mk ((by rw [hg]; exact Nat.ne_of_lt (blk_lt BKz0.out) : gbz3 ≠ gbz0)); have NBz7 := mk ((by rw [hg]; exact Nat.ne_of_gt (blk_lt BKz0.out) : gbz0 ≠ gbz3)); replace BKz0 := mk (blk_below BKz0.out hb); have NBz1 := mk ((by rw [hg]; exact Nat.ne_of_lt (blk_lt BKz1.out) : gbz2 ≠ gbz0)); have NBz8 := mk ((by rw [hg]; exact Nat.ne_of_gt (blk_lt BKz1.out) : gbz0 ≠ gbz2)); replace BKz1 := mk (blk_below BKz1.out hb); have NBz2 := mk ((by rw [hg]; exact Nat.ne_of_lt (blk_lt BKz2.out) : gbz1 ≠ gbz0)); have NBz9 := mk ((by rw [hg]; exact Nat.ne_of_gt (blk_lt BKz2.out) : gbz0 ≠ gbz1)); replace BKz2 := mk (blk_below BKz2.out hb); clear hb hbox hg; have hnb38 := NBz7.out; have hnc38 := NBz0.out; have hnb39 := NBz8.out; have hnc39 := NBz1.out; have hnb40 := NBz9.out; have hnc40 := NBz2.out; obtain ⟨hcz41_0, hcz41_1, hcz41_2, hcz41_3, hfz41_0, hfz41_1, hfz41_2, hfz41_3⟩ := c4 BKz3.out))
        go_cut [67] (fun v67 wc => ∃ (kq : Nat) (x67_35 : Bool), v67 = .bool x67_35 ∧ Aside0 (impl_DirtyTiles.j2 kq x5_2 x25_2 tz0 (tz0.length : Int) x25_2 x67_35 tz1 tz2 tz3 tz4 = some r) ∧ Aside0 (kq ≤ k2) ∧ Aside0 (Kd.R (Kd.int .i64) 3 wc w.heap.size (fun _ => True) u5 x5_2) ∧ Aside0 (Kd.R k47 47 wc w.heap.size (fun k_ => k_ ≠ gbz1 ∧ k_ ≠ gbz0) (.slice (some ad43016) tz0.length co32) tz0) ∧ Aside0 (wc.heap[gbz3]? = some (.cells #[.int .i64 a0_0, .int .i64 a0_1, .int .i64 a0_2, (.slice A0_3 l0_3.length c0_3)] 27 (0, 0))) ∧ Aside0 (wc.heap[gbz2]? = some (.cells #[.int .i64 a1_0, .int .i64 a1_1, .int .i64 a1_2, (.slice A1_3 l1_3.length c1_3), .int .i64 a1_4, .int .i64 a1_5, .int .i64 a1_6, .int .i64 a1_7, .bool a1_8] 55 (0, 0))) ∧ Aside0 (wc.heap[gbz1]? = some (.cells #[.int .i64 tz1, .int .i64 tz2, .int .i64 tz3, .int .i64 tz4] 47 (0, 0))) ∧ Aside0 (wc.heap[gbz0]? = some (.cells #[.int .i64 ((rd_T47 tz0 x25_2).f0), .int .i64 ((rd_T47 tz0 x25_2).f1), .int .i64 ((rd_T47 tz0 x25_2).f2), .int .i64 ((rd_T47 tz0 x25_2).f3)] 47 (0, 0))) ∧ Aside0 (Below w.heap.size w wc))
        case first =>
         have H := HC36.out
         clear HC36
         by_cases c42 : tz1 < (wrap64 (((rd_T47 tz0 x25_2).f0) + ((rd_T47 tz0 x25_2).f2)))
         ·rw [if_pos c42] at H
          have c42b0 : decide (tz1 < (wrap64 (((rd_T47 tz0 x25_2).f0) + ((rd_T47 tz0 x25_2).f2)))) = true := decide_eq_true c42
          clear c42
          (skip)
          by_cases c43 : ((rd_T47 tz0 x25_2).f0) < (wrap64 (tz1 + tz3))
          ·rw [if_pos c43] at H
           have c43b0 : decide (((rd_T47 tz0 x25_2).f0) < (wrap64 (tz1 + tz3))) = true := decide_eq_true c43
           clear c43
           by_cases c44 : tz2 < (wrap64 (((rd_T47 tz0 x25_2).f1) + ((rd_T47 tz0 x25_2).f3)))
           ·rw [if_pos c44] at H
            have c44b0 : decide (tz2 < (wrap64 (((rd_T47 tz0 x25_2).f1) + ((rd_T47 tz0 x25_2).f3)))) = true := decide_eq_true c44
            clear c44
            have H' := mk H
            clear H
            have hnb45 := NBz5.out
            have hnc45 := NBz3.out
            have hnb46 := NBz6.out
            have hnc46 := NBz4.out
            have hnb47 := NBz2.out
            have hnc47 := NBz9.out
            obtain ⟨hcz48_0, hcz48_1, hcz48_2, hcz48_3, hfz48_0, hfz48_1, hfz48_2, hfz48_3⟩ := c4 BKz2.out
            have hnb49 := NBz7.out
            have hnc49 := NBz0.out
            have hnb50 := NBz8.out
            have hnc50 := NBz1.out
            obtain ⟨hcz51_0, hcz51_1, hcz51_2, hcz51_3, hfz51_0, hfz51_1, hfz51_2, hfz51_3⟩ := c4 BKz3.out
            go_wp2
            go_meet
            case rel => exact ⟨_, (decide (((rd_T47 tz0 x25_2).f1) < (wrap64 (tz2 + tz4)))), (by rfl), H', ⟨by have := HJ2.out; have := HK2.out; omega⟩, ⟨by exact Kd.R_mono (Kd.R_far (p := ⟨gbz0, 3, none⟩) (Kd.R_far (p := ⟨gbz0, 2, none⟩) (Kd.R_far (p := ⟨gbz0, 1, none⟩) (Kd.R_far (p := ⟨gbz0, 0, none⟩) (Kd.R_types HO_5.out BKz3.out (by decide)) (fun _ hk => hk.2) (.int .i64 ((rd_T47 tz0 x25_2).f0))) (fun _ hk => hk.2) (.int .i64 ((rd_T47 tz0 x25_2).f1))) (fun _ hk => hk.2) (.int .i64 ((rd_T47 tz0 x25_2).f2))) (fun _ hk => hk.2) (.int .i64 ((rd_T47 tz0 x25_2).f3))) (fun _ hk => trivial)⟩, ⟨by exact Kd.R_mono (Kd.R_far (p := ⟨gbz0, 3, none⟩) (Kd.R_far (p := ⟨gbz0, 2, none⟩) (Kd.R_far (p := ⟨gbz0, 1, none⟩) (Kd.R_far (p := ⟨gbz0, 0, none⟩) (Kd.R_mono HO_23.out (fun k_ hk => (⟨hk, hk.2⟩ : _ ∧ k_ ≠ gbz0))) (fun _ hk => hk.2) (.int .i64 ((rd_T47 tz0 x25_2).f0))) (fun _ hk => hk.2) (.int .i64 ((rd_T47 tz0 x25_2).f1))) (fun _ hk => hk.2) (.int .i64 ((rd_T47 tz0 x25_2).f2))) (fun _ hk => hk.2) (.int .i64 ((rd_T47 tz0 x25_2).f3))) (fun _ hk => ⟨hk.1.1, hk.1.2⟩)⟩, ⟨by refine blk_far ?_ NBz0.out _; refine blk_far ?_ NBz0.out _; refine blk_far ?_ NBz0.out _; refine blk_far ?_ NBz0.out _; exact BKz0.out⟩, ⟨by refine blk_far ?_ NBz1.out _; refine blk_far ?_ NBz1.out _; refine blk_far ?_ NBz1.out _; refine blk_far ?_ NBz1.out _; exact BKz1.out⟩, ⟨by refine blk_far ?_ NBz2.out _; refine blk_far ?_ NBz2.out _; refine blk_far ?_ NBz2.out _; refine blk_far ?_ NBz2.out _; exact BKz2.out⟩, ⟨by refine blk_put (cs := #[.int .i64 ((rd_T47 tz0 x25_2).f0), .int .i64 ((rd_T47 tz0 x25_2).f1), .int .i64 ((rd_T47 tz0 x25_2).f2), .int .i64 0]) ?_ 3 _ rfl; refine blk_put (cs := #[.int .i64 ((rd_T47 tz0 x25_2).f0), .int .i64 ((rd_T47 tz0 x25_2).f1), .int .i64 0, .int .i64 0]) ?_ 2 _ rfl; refine blk_put (cs := #[.int .i64 ((rd_T47 tz0 x25_2).f0), .int .i64 0, .int .i64 0, .int .i64 0]) ?_ 1 _ rfl; refine blk_put (cs := #[.int .i64 0, .int .i64 0, .int .i64 0, .int .i64 0]) ?_ 0 _ rfl; exact BKz3.out⟩, ⟨by repeat (with_reducible first | exact HB.out | refine below_set ?_ GEz0.out)⟩⟩
           rw [if_neg c44] at H
           have c44b0 : decide (tz2 < (wrap64 (((rd_T47 tz0 x25_2).f1) + ((rd_T47 tz0 x25_2).f3)))) = false := decide_eq_false c44
           clear c44
           have H' := mk H
           clear H
           have hnb52 := NBz5.out
           have hnc52 := NBz3.out
           have hnb53 := NBz6.out
           have hnc53 := NBz4.out
           have hnb54 := NBz2.out
           have hnc54 := NBz9.out
           obtain ⟨hcz55_0, hcz55_1, hcz55_2, hcz55_3, hfz55_0, hfz55_1, hfz55_2, hfz55_3⟩ := c4 BKz2.out
           have hnb56 := NBz7.out
           have hnc56 := NBz0.out
           have hnb57 := NBz8.out
           have hnc57 := NBz1.out
           obtain ⟨hcz58_0, hcz58_1, hcz58_2, hcz58_3, hfz58_0, hfz58_1, hfz58_2, hfz58_3⟩ := c4 BKz3.out
           go_wp2
           go_meet
           case rel => exact ⟨_, (false), (by rfl), H', ⟨by have := HJ2.out; have := HK2.out; omega⟩, ⟨by exact Kd.R_mono (Kd.R_far (p := ⟨gbz0, 3, none⟩) (Kd.R_far (p := ⟨gbz0, 2, none⟩) (Kd.R_far (p := ⟨gbz0, 1, none⟩) (Kd.R_far (p := ⟨gbz0, 0, none⟩) (Kd.R_types HO_5.out BKz3.out (by decide)) (fun _ hk => hk.2) (.int .i64 ((rd_T47 tz0 x25_2).f0))) (fun _ hk => hk.2) (.int .i64 ((rd_T47 tz0 x25_2).f1))) (fun _ hk => hk.2) (.int .i64 ((rd_T47 tz0 x25_2).f2))) (fun _ hk => hk.2) (.int .i64 ((rd_T47 tz0 x25_2).f3))) (fun _ hk => trivial)⟩, ⟨by exact Kd.R_mono (Kd.R_far (p := ⟨gbz0, 3, none⟩) (Kd.R_far (p := ⟨gbz0, 2, none⟩) (Kd.R_far (p := ⟨gbz0, 1, none⟩) (Kd.R_far (p := ⟨gbz0, 0, none⟩) (Kd.R_mono HO_23.out (fun k_ hk => (⟨hk, hk.2⟩ : _ ∧ k_ ≠ gbz0))) (fun _ hk => hk.2) (.int .i64 ((rd_T47 tz0 x25_2).f0))) (fun _ hk => hk.2) (.int .i64 ((rd_T47 tz0 x25_2).f1))) (fun _ hk => hk.2) (.int .i64 ((rd_T47 tz0 x25_2).f2))) (fun _ hk => hk.2) (.int .i64 ((rd_T47 tz0 x25_2).f3))) (fun _ hk => ⟨hk.1.1, hk.1.2⟩)⟩, ⟨by refine blk_far ?_ NBz0.out _; refine blk_far ?_ NBz0.out _; refine blk_far ?_ NBz0.out _; refine blk_far ?_ NBz0.out _; exact BKz0.out⟩, ⟨by refine blk_far ?_ NBz1.out _; refine blk_far ?_ NBz1.out _; refine blk_far ?_ NBz1.out _; refine blk_far ?_ NBz1.out _; exact BKz1.out⟩, ⟨by refine blk_far ?_ NBz2.out _; refine blk_far ?_ NBz2.out _; refine blk_far ?_ NBz2.out _; refine blk_far ?_ NBz2.out _; exact BKz2.out⟩, ⟨by refine blk_put (cs := #[.int .i64 ((rd_T47 tz0 x25_2).f0), .int .i64 ((rd_T47 tz0 x25_2).f1), .int .i64 ((rd_T47 tz0 x25_2).f2), .int .i64 0]) ?_ 3 _ rfl; refine blk_put (cs := #[.int .i64 ((rd_T47 tz0 x25_2).f0), .int .i64 ((rd_T47 tz0 x25_2).f1), .int .i64 0, .int .i64 0]) ?_ 2 _ rfl; refine blk_put (cs := #[.int .i64 ((rd_T47 tz0 x25_2).f0), .int .i64 0, .int .i64 0, .int .i64 0]) ?_ 1 _ rfl; refine blk_put (cs := #[.int .i64 0, .int .i64 0, .int .i64 0, .int .i64 0]) ?_ 0 _ rfl; exact BKz3.out⟩, ⟨by repeat (with_reducible first | exact HB.out | refine below_set ?_ GEz0.out)⟩⟩
          rw [if_neg c43] at H
          have c43b0 : decide (((rd_T47 tz0 x25_2).f0) < (wrap64 (tz1 + tz3))) = false := decide_eq_false c43
          clear c43
          have H' := mk H
          clear H
          have hnb59 := NBz5.out
          have hnc59 := NBz3.out
          have hnb60 := NBz6.out
          have hnc60 := NBz4.out
          have hnb61 := NBz2.out
          have hnc61 := NBz9.out
          obtain ⟨hcz62_0, hcz62_1, hcz62_2, hcz62_3, hfz62_0, hfz62_1, hfz62_2, hfz62_3⟩ := c4 BKz2.out
          have hnb63 := NBz7.out
          have hnc63 := NBz0.out
          have hnb64 := NBz8.out
          have hnc64 := NBz1.out
          obtain ⟨hcz65_0, hcz65_1, hcz65_2, hcz65_3, hfz65_0, hfz65_1, hfz65_2, hfz65_3⟩ := c4 BKz3.out
          go_wp2
          go_meet
          case rel => exact ⟨_, (false), (by rfl), H', ⟨by have := HJ2.out; have := HK2.out; omega⟩, ⟨by exact Kd.R_mono (Kd.R_far (p := ⟨gbz0, 3, none⟩) (Kd.R_far (p := ⟨gbz0, 2, none⟩) (Kd.R_far (p := ⟨gbz0, 1, none⟩) (Kd.R_far (p := ⟨gbz0, 0, none⟩) (Kd.R_types HO_5.out BKz3.out (by decide)) (fun _ hk => hk.2) (.int .i64 ((rd_T47 tz0 x25_2).f0))) (fun _ hk => hk.2) (.int .i64 ((rd_T47 tz0 x25_2).f1))) (fun _ hk => hk.2) (.int .i64 ((rd_T47 tz0 x25_2).f2))) (fun _ hk => hk.2) (.int .i64 ((rd_T47 tz0 x25_2).f3))) (fun _ hk => trivial)⟩, ⟨by exact Kd.R_mono (Kd.R_far (p := ⟨gbz0, 3, none⟩) (Kd.R_far (p := ⟨gbz0, 2, none⟩) (Kd.R_far (p := ⟨gbz0, 1, none⟩) (Kd.R_far (p := ⟨gbz0, 0, none⟩) (Kd.R_mono HO_23.out (fun k_ hk => (⟨hk, hk.2⟩ : _ ∧ k_ ≠ gbz0))) (fun _ hk => hk.2) (.int .i64 ((rd_T47 tz0 x25_2).f0))) (fun _ hk => hk.2) (.int .i64 ((rd_T47 tz0 x25_2).f1))) (fun _ hk => hk.2) (.int .i64 ((rd_T47 tz0 x25_2).f2))) (fun _ hk => hk.2) (.int .i64 ((rd_T47 tz0 x25_2).f3))) (fun _ hk => ⟨hk.1.1, hk.1.2⟩)⟩, ⟨by refine blk_far ?_ NBz0.out _; refine blk_far ?_ NBz0.out _; refine blk_far ?_ NBz0.out _; refine blk_far ?_ NBz0.out _; exact BKz0.out⟩, ⟨by refine blk_far ?_ NBz1.out _; refine blk_far ?_ NBz1.out _; refine blk_far ?_ NBz1.out _; refine blk_far ?_ NBz1.out _; exact BKz1.out⟩, ⟨by refine blk_far ?_ NBz2.out _; refine blk_far ?_ NBz2.out _; refine blk_far ?_ NBz2.out _; refine blk_far ?_ NBz2.out _; exact BKz2.out⟩, ⟨by refine blk_put (cs := #[.int .i64 ((rd_T47 tz0 x25_2).f0), .int .i64 ((rd_T47 tz0 x25_2).f1), .int .i64 ((rd_T47 tz0 x25_2).f2), .int .i64 0]) ?_ 3 _ rfl; refine blk_put (cs := #[.int .i64 ((rd_T47 tz0 x25_2).f0), .int .i64 ((rd_T47 tz0 x25_2).f1), .int .i64 0, .int .i64 0]) ?_ 2 _ rfl; refine blk_put (cs := #[.int .i64 ((rd_T47 tz0 x25_2).f0), .int .i64 0, .int .i64 0, .int .i64 0]) ?_ 1 _ rfl; refine blk_put (cs := #[.int .i64 0, .int .i64 0, .int .i64 0, .int .i64 0]) ?_ 0 _ rfl; exact BKz3.out⟩, ⟨by repeat (with_reducible first | exact HB.out | refine below_set ?_ GEz0.out)⟩⟩
         rw [if_neg c42] at H
         have c42b0 : decide (tz1 < (wrap64 (((rd_T47 tz0 x25_2).f0) + ((rd_T47 tz0 x25_2).f2)))) = false := decide_eq_false c42
         clear c42
         (skip)
         have H' := mk H
         clear H
         have hnb66 := NBz5.out
         have hnc66 := NBz3.out
         have hnb67 := NBz6.out
         have hnc67 := NBz4.out
         have hnb68 := NBz2.out
         have hnc68 := NBz9.out
         obtain ⟨hcz69_0, hcz69_1, hcz69_2, hcz69_3, hfz69_0, hfz69_1, hfz69_2, hfz69_3⟩ := c4 BKz2.out
         have hnb70 := NBz7.out
         have hnc70 := NBz0.out
         have hnb71 := NBz8.out
         have hnc71 := NBz1.out
         obtain ⟨hcz72_0, hcz72_1, hcz72_2, hcz72_3, hfz72_0, hfz72_1, hfz72_2, hfz72_3⟩ := c4 BKz3.out
         go_wp2
         go_meet
         case rel => exact ⟨_, (false), (by rfl), H', ⟨by have := HJ2.out; have := HK2.out; omega⟩, ⟨by exact Kd.R_mono (Kd.R_far (p := ⟨gbz0, 3, none⟩) (Kd.R_far (p := ⟨gbz0, 2, none⟩) (Kd.R_far (p := ⟨gbz0, 1, none⟩) (Kd.R_far (p := ⟨gbz0, 0, none⟩) (Kd.R_types HO_5.out BKz3.out (by decide)) (fun _ hk => hk.2) (.int .i64 ((rd_T47 tz0 x25_2).f0))) (fun _ hk => hk.2) (.int .i64 ((rd_T47 tz0 x25_2).f1))) (fun _ hk => hk.2) (.int .i64 ((rd_T47 tz0 x25_2).f2))) (fun _ hk => hk.2) (.int .i64 ((rd_T47 tz0 x25_2).f3))) (fun _ hk => trivial)⟩, ⟨by exact Kd.R_mono (Kd.R_far (p := ⟨gbz0, 3, none⟩) (Kd.R_far (p := ⟨gbz0, 2, none⟩) (Kd.R_far (p := ⟨gbz0, 1, none⟩) (Kd.R_far (p := ⟨gbz0, 0, none⟩) (Kd.R_mono HO_23.out (fun k_ hk => (⟨hk, hk.2⟩ : _ ∧ k_ ≠ gbz0))) (fun _ hk => hk.2) (.int .i64 ((rd_T47 tz0 x25_2).f0))) (fun _ hk => hk.2) (.int .i64 ((rd_T47 tz0 x25_2).f1))) (fun _ hk => hk.2) (.int .i64 ((rd_T47 tz0 x25_2).f2))) (fun _ hk => hk.2) (.int .i64 ((rd_T47 tz0 x25_2).f3))) (fun _ hk => ⟨hk.1.1, hk.1.2⟩)⟩, ⟨by refine blk_far ?_ NBz0.out _; refine blk_far ?_ NBz0.out _; refine blk_far ?_ NBz0.out _; refine blk_far ?_ NBz0.out _; exact BKz0.out⟩, ⟨by refine blk_far ?_ NBz1.out _; refine blk_far ?_ NBz1.out _; refine blk_far ?_ NBz1.out _; refine blk_far ?_ NBz1.out _; exact BKz1.out⟩, ⟨by refine blk_far ?_ NBz2.out _; refine blk_far ?_ NBz2.out _; refine blk_far ?_ NBz2.out _; refine blk_far ?_ NBz2.out _; exact BKz2.out⟩, ⟨by refine blk_put (cs := #[.int .i64 ((rd_T47 tz0 x25_2).f0), .int .i64 ((rd_T47 tz0 x25_2).f1), .int .i64 ((rd_T47 tz0 x25_2).f2), .int .i64 0]) ?_ 3 _ rfl; refine blk_put (cs := #[.int .i64 ((rd_T47 tz0 x25_2).f0), .int .i64 ((rd_T47 tz0 x25_2).f1), .int .i64 0, .int .i64 0]) ?_ 2 _ rfl; refine blk_put (cs := #[.int .i64 ((rd_T47 tz0 x25_2).f0), .int .i64 0, .int .i64 0, .int .i64 0]) ?_ 1 _ rfl; refine blk_put (cs := #[.int .i64 0, .int .i64 0, .int .i64 0, .int .i64 0]) ?_ 0 _ rfl; exact BKz3.out⟩, ⟨by repeat (with_reducible first | exact HB.out | refine below_set ?_ GEz0.out)⟩⟩
        case rest =>
         clear HC36
         obtain ⟨kq, x67_35, rfl, HA, HJ35, HO_5, HO_23, BKz0, BKz1, BKz2, BKz3, HB⟩ := hcut
         cases kq with
         | zero => exact absurd HA.out (by simp [impl_DirtyTiles.j2])
         | succ kj35 =>
          have H := HA.out
          clear HA
          simp only [impl_DirtyTiles.j2] at H
          by_cases c73 : x67_35 = true
          ·subst c73
           have H1 : (if x5_2.length < 17592186044416 then (impl_DirtyTiles.l0 kj35 (x5_2 ++ [x25_2]) tz0 (tz0.length : Int) (wrap64 (x25_2 + 1)) tz1 tz2 tz3 tz4) else none) = some r := by rw [if_pos rfl] at H; exact H
           clear H
           have H := H1
           clear H1
           by_cases c74 : x5_2.length < 17592186044416
           ·rw [if_pos c74] at H
            have LMc74 := mk c74
            clear c74
            obtain ⟨yz1, hyz1⟩ : ∃ y_ : List Int, y_ = (x5_2 ++ [x25_2]) := ⟨_, rfl⟩
            replace H : (impl_DirtyTiles.l0 kj35 yz1 tz0 (tz0.length : Int) (wrap64 (x25_2 + 1)) tz1 tz2 tz3 tz4) = some r := by (rw [hyz1]; with_reducible exact H)
            have Nyz1 := mk hyz1
            clear hyz1
            have H' := mk H
            clear H
            go_wp2_with (first | ((with_reducible refine gate_builtin (b := .append) (xs := #[.tmp 68, .tmp 70]) rfl ?_); at_builtin; refine Kd.R_append (Kd.int .i64) (w0 := w) w.heap.size rfl (.tmp 68) (.tmp 70) 22 3 (.int .i64 0) 8 rfl Try.underlying22 info3 rfl (by decide) (by omega) u5 x5_2 x25_2 [.int .i64 x25_2] (fun _ => True) (fun _ => False) rfl rfl ?aP (fun _ hk => hk.elim) ?aF ?aO ?aB ?aS ?aL ?_; (case aP => exact rfl); (case aB => exact HB.out); (case aF => exact (fun _ _ => trivial)); (case aO => exact HO_5.out); (case aS => exact (below_size HB.out)); (case aL => have := LMc74.out; omega); intro vz2 w75 ho hb hg hat; rw [← Nyz1.out] at ho; have n0_ := mk (Kd.R_over' HO_23.out (Kd.R_typed HO_5.out) (by decide) hg); have n1_ := mk (blk_grown (g := gbz3) (o := .cells #[.int .i64 a0_0, .int .i64 a0_1, .int .i64 a0_2, .slice A0_3 l0_3.length c0_3] 27 (0, 0)) BKz0.out hg (Kd.R_ne HO_5.out BKz0.out (by decide))); have n2_ := mk (blk_grown (g := gbz2) (o := .cells #[.int .i64 a1_0, .int .i64 a1_1, .int .i64 a1_2, .slice A1_3 l1_3.length c1_3, .int .i64 a1_4, .int .i64 a1_5, .int .i64 a1_6, .int .i64 a1_7, .bool a1_8] 55 (0, 0)) BKz1.out hg (Kd.R_ne HO_5.out BKz1.out (by decide))); have n3_ := mk (blk_grown (g := gbz1) (o := .cells #[.int .i64 tz1, .int .i64 tz2, .int .i64 tz3, .int .i64 tz4] 47 (0, 0)) BKz2.out hg (Kd.R_ne HO_5.out BKz2.out (by decide))); have n4_ := mk (blk_grown (g := gbz0) (o := .cells #[.int .i64 ((rd_T47 tz0 x25_2).f0), .int .i64 ((rd_T47 tz0 x25_2).f1), .int .i64 ((rd_T47 tz0 x25_2).f2), .int .i64 ((rd_T47 tz0 x25_2).f3)] 47 (0, 0)) BKz3.out hg (Kd.R_ne HO_5.out BKz3.out (by decide))); have n5_ := mk (hb); have n6_ := mk (ho); clear HO_23; clear BKz0; clear BKz1; clear BKz2; clear BKz3; clear HB; clear HO_5; have HO_23 := n0_; have BKz0 := n1_; have BKz1 := n2_; have BKz2 := n3_; have BKz3 := n4_; have HB := n5_; have HOz2 := n6_; clear ho hb hg hat))
            go_roundg kj35
            case measure => have := HJ2.out; have := HK2.out; have := HJ35.out; omega
            case rel => exact ⟨(yz1), (wrap64 (x25_2 + 1)), (by rfl), H', ⟨by have := HJ2.out; have := HK2.out; have := HJ35.out; omega⟩, HOz2, ⟨by exact Kd.R_mono HO_23.out (fun _ hk => hk.1)⟩, BKz0, BKz1, BKz2, HB⟩
           rw [if_neg c74] at H
           exact absurd H (by simp)
          replace c73 := Bool.eq_false_iff.mpr c73
          subst c73
          have H1 : (impl_DirtyTiles.l0 kj35 x5_2 tz0 (tz0.length : Int) (wrap64 (x25_2 + 1)) tz1 tz2 tz3 tz4) = some r := by rw [if_neg (show ¬ (false = true) by decide)] at H; exact H
          clear H
          have H := H1
          clear H1
          have H' := mk H
          clear H
          go_wp2
          go_roundg kj35
          case measure => have := HJ2.out; have := HK2.out; have := HJ35.out; omega
          case rel => exact ⟨(x5_2), (wrap64 (x25_2 + 1)), (by rfl), H', ⟨by have := HJ2.out; have := HK2.out; have := HJ35.out; omega⟩, HO_5, ⟨by exact Kd.R_mono HO_23.out (fun _ hk => hk.1)⟩, BKz0, BKz1, BKz2, HB⟩
       rw [if_neg c35] at H
       exact absurd H (by simp)
      rw [if_neg c34] at H
      exact absurd H (by simp)
     rw [if_neg c33] at H
     have c33b0 : decide (x25_2 < (tz0.length : Int)) = false := decide_eq_false c33
     clear c33
     obtain rfl := Option.some.inj H
     go_wp2
     go_ret
     exact ⟨_, by rfl, by exact HO_5.out, by exact HB.out⟩

end Go.Proofs.Ytnofkbbcbpjhfaa.Q

namespace Go.Proofs.Ytnofkbbcbpjhfaa.Q
open Go.RowKit Go.Proofs.YtnofkbbcbpjhfaaW.PrintWords Go.Proofs.YtnofkbbcbpjhfaaW.PrintLast Go.Proofs.YtnofkbbcbpjhfaaW.PrintMore
attribute [local go_sem] max2_int min2_int max_two min_two max_three min_three max_four min_four
set_option linter.unusedVariables false
set_option linter.unusedSimpArgs false
def spec_inRange.f (a0 : Int) (a1 : Int) (a2 : Int) : Option (Bool) := if a1 ≤ a0 then (some (decide (a0 ≤ a2))) else (some false)
set_option maxHeartbeats 8000000 in
set_option maxRecDepth 100000 in
theorem spec_inRange.calls (a0 : Int) (a1 : Int) (a2 : Int) (r : Bool) (w : World) (h : spec_inRange.f a0 a1 a2 = some r) :
  Calls Try.prog 110 #[.int .i64 a0, .int .i64 a1, .int .i64 a2] w fun e w' => e = .returned (.bool r) ∧ Drawn0 w w' := by
 have H : (if a1 ≤ a0 then (some (decide (a0 ≤ a2))) else (some false)) = some r := h
 clear h
 by_cases c4 : a1 ≤ a0
 ·rw [if_pos c4] at H
  have c4b0 : decide (a1 ≤ a0) = true := decide_eq_true c4
  clear c4
  obtain rfl := Option.some.inj H
  go_enter Try.func110, Try.ntmps110
  go_wp2
  go_ret
  exact ⟨by first | rfl | (simp; done) | (simp [*]; done), by repeat (first | exact Drawn0.refl _ | apply Drawn0.step)⟩
 ·rw [if_neg c4] at H
  have c4b0 : decide (a1 ≤ a0) = false := decide_eq_false c4
  clear c4
  obtain rfl := Option.some.inj H
  go_enter Try.func110, Try.ntmps110
  go_wp2
  go_ret
  exact ⟨by first | rfl | (simp; done) | (simp [*]; done), by repeat (first | exact Drawn0.refl _ | apply Drawn0.step)⟩


def spec_validShape.f (a0 : Int) (a1 : Int) (a2 : Int) : Option (Bool) := (spec_inRange.f a0 1 16).bind fun t135001 => (if t135001 = true then ((spec_inRange.f a1 1 16).bind fun t135002 => (if t135002 = true then ((spec_inRange.f a2 1 4).bind fun t135003 => (some t135003)) else (some false))) else (some false))
set_option maxHeartbeats 8000000 in
set_option maxRecDepth 100000 in
theorem spec_validShape.calls (a0 : Int) (a1 : Int) (a2 : Int) (r : Bool) (w : World) (h : spec_validShape.f a0 a1 a2 = some r) :
  Calls Try.prog 134 #[.int .i64 a0, .int .i64 a1, .int .i64 a2] w fun e w' => e = .returned (.bool r) ∧ Drawn0 w w' := by
 have H : ((spec_inRange.f a0 1 16).bind fun t135001 => (if t135001 = true then ((spec_inRange.f a1 1 16).bind fun t135002 => (if t135002 = true then ((spec_inRange.f a2 1 4).bind fun t135003 => (some t135003)) else (some false))) else (some false))) = some r := h
 clear h
 replace H := Option.bind_eq_some_iff.mp H
 obtain ⟨t135001, A40, H⟩ := H
 replace H : (if t135001 = true then ((spec_inRange.f a1 1 16).bind fun t135002 => (if t135002 = true then ((spec_inRange.f a2 1 4).bind fun t135003 => (some t135003)) else (some false))) else (some false)) = some r := H
 have A4 := Aside0.mk A40
 clear A40
 by_cases c5 : t135001 = true
 ·subst c5
  have H1 : ((spec_inRange.f a1 1 16).bind fun t135002 => (if t135002 = true then ((spec_inRange.f a2 1 4).bind fun t135003 => (some t135003)) else (some false))) = some r := by rw [if_pos rfl] at H; exact H
  clear H
  have H := H1
  clear H1
  replace H := Option.bind_eq_some_iff.mp H
  obtain ⟨t135002, A60, H⟩ := H
  replace H : (if t135002 = true then ((spec_inRange.f a2 1 4).bind fun t135003 => (some t135003)) else (some false)) = some r := H
  have A6 := Aside0.mk A60
  clear A60
  by_cases c7 : t135002 = true
  ·subst c7
   have H1 : ((spec_inRange.f a2 1 4).bind fun t135003 => (some t135003)) = some r := by rw [if_pos rfl] at H; exact H
   clear H
   have H := H1
   clear H1
   replace H := Option.bind_eq_some_iff.mp H
   obtain ⟨t135003, A80, H⟩ := H
   replace H : (some t135003) = some r := H
   have A8 := Aside0.mk A80
   clear A80
   obtain rfl := Option.some.inj H
   go_enter Try.func134, Try.ntmps134
   go_wp2_with (first | ((with_reducible refine gate_callee (f := 110) rfl ?_); refine goesL_ (some 8) rfl rfl Try.func110 (by kernel_rfl) rfl #[.int .i64 a0, .int .i64 1, .int .i64 16] rfl (by (try simp only [List.map_toArray, List.map_cons, List.map_nil]); first | done | rfl | (simp only [List.length_drop, List.length_take]; rfl)) ?_; (with_reducible refine (spec_inRange.calls a0 1 16 true _ A4.out).mono ?_); rintro e w' ⟨rfl, ⟨nd, rfl⟩⟩; refine ⟨_, rfl, ?_⟩) | (go_at_call 110; (with_reducible refine (spec_inRange.calls a1 1 16 true _ A6.out).mono ?_); rintro e w' ⟨rfl, ⟨nd, rfl⟩⟩) | (go_at_call 110; (with_reducible refine (spec_inRange.calls a2 1 4 t135003 _ A8.out).mono ?_); rintro e w' ⟨rfl, ⟨nd, rfl⟩⟩))
   go_ret
   exact ⟨by first | rfl | (simp; done) | (simp [*]; done), by repeat (first | exact Drawn0.refl _ | apply Drawn0.step)⟩
  ·replace c7 := Bool.eq_false_iff.mpr c7
   subst c7
   have H1 : (some false) = some r := by rw [if_neg (show ¬ (false = true) by decide)] at H; exact H
   clear H
   have H := H1
   clear H1
   obtain rfl := Option.some.inj H
   go_enter Try.func134, Try.ntmps134
   go_wp2_with (first | ((with_reducible refine gate_callee (f := 110) rfl ?_); refine goesL_ (some 8) rfl rfl Try.func110 (by kernel_rfl) rfl #[.int .i64 a0, .int .i64 1, .int .i64 16] rfl (by (try simp only [List.map_toArray, List.map_cons, List.map_nil]); first | done | rfl | (simp only [List.length_drop, List.length_take]; rfl)) ?_; (with_reducible refine (spec_inRange.calls a0 1 16 true _ A4.out).mono ?_); rintro e w' ⟨rfl, ⟨nd, rfl⟩⟩; refine ⟨_, rfl, ?_⟩) | (go_at_call 110; (with_reducible refine (spec_inRange.calls a1 1 16 false _ A6.out).mono ?_); rintro e w' ⟨rfl, ⟨nd, rfl⟩⟩))
   go_ret
   exact ⟨by first | rfl | (simp; done) | (simp [*]; done), by repeat (first | exact Drawn0.refl _ | apply Drawn0.step)⟩
 ·replace c5 := Bool.eq_false_iff.mpr c5
  subst c5
  have H1 : (some false) = some r := by rw [if_neg (show ¬ (false = true) by decide)] at H; exact H
  clear H
  have H := H1
  clear H1
  obtain rfl := Option.some.inj H
  go_enter Try.func134, Try.ntmps134
  go_wp2_with (first | ((with_reducible refine gate_callee (f := 110) rfl ?_); refine goesL_ (some 8) rfl rfl Try.func110 (by kernel_rfl) rfl #[.int .i64 a0, .int .i64 1, .int .i64 16] rfl (by (try simp only [List.map_toArray, List.map_cons, List.map_nil]); first | done | rfl | (simp only [List.length_drop, List.length_take]; rfl)) ?_; (with_reducible refine (spec_inRange.calls a0 1 16 false _ A4.out).mono ?_); rintro e w' ⟨rfl, ⟨nd, rfl⟩⟩; refine ⟨_, rfl, ?_⟩))
  go_ret
  exact ⟨by first | rfl | (simp; done) | (simp [*]; done), by repeat (first | exact Drawn0.refl _ | apply Drawn0.step)⟩


def spec_allIn.l0 : Nat → List Int → Int → Int → Int → Option (Bool)
 | 0, _, _, _, _ => none
 | k + 1, x0, x1, x2, x7 => if x7 < (x0.length : Int) then (if 0 ≤ x7 then ((spec_inRange.f (rd x0 x7) x1 x2).bind fun t136002 => (if t136002 = true then (spec_allIn.l0 k x0 x1 x2 (wrap64 (x7 + 1))) else (some false))) else (none)) else (some true)
def spec_allIn.f (k : Nat) (l0 : List Int) (a1 : Int) (a2 : Int) : Option (Bool) := spec_allIn.l0 k l0 a1 a2 0
theorem spec_allIn.mono_l : ∀ k, (∀ y0 y1 y2 y3, LeO (spec_allIn.l0 k y0 y1 y2 y3) (spec_allIn.l0 (k + 1) y0 y1 y2 y3))
 | 0 => fun _ _ _ _ r h => by simp [spec_allIn.l0] at h
 | k + 1 => by
  have ih0 := spec_allIn.mono_l k
  ·intro y0 y1 y2 y3
   unfold spec_allIn.l0
   repeat' first
   | (with_reducible exact ih0 _ _ _ _)
   | (with_reducible exact LeO.refl _)
   | (with_reducible exact LeO.none _)
   | (with_reducible refine LeO.ite ?_ ?_)
   | (with_reducible refine LeO.bind ?_ (fun _ => ?_))
   | exact ih0 _ _ _ _
   | exact LeO.none _
   | refine LeO.ite ?_ ?_
   | refine LeO.bind ?_ (fun _ => ?_)
theorem spec_allIn.mono : ∀ a0 a1 a2 k, LeO (spec_allIn.f k a0 a1 a2) (spec_allIn.f (k + 1) a0 a1 a2) := by
 intro a0 a1 a2 k
 have ih0 := spec_allIn.mono_l k
 unfold spec_allIn.f
 repeat' first
   | (with_reducible exact ih0 _ _ _ _)
   | (with_reducible exact LeO.refl _)
   | (with_reducible exact LeO.none _)
   | (with_reducible refine LeO.ite ?_ ?_)
   | (with_reducible refine LeO.bind ?_ (fun _ => ?_))
   | exact ih0 _ _ _ _
   | exact LeO.none _
   | refine LeO.ite ?_ ?_
   | refine LeO.bind ?_ (fun _ => ?_)
set_option maxHeartbeats 8000000 in
set_option maxRecDepth 100000 in
theorem spec_allIn.calls (k : Nat) (A0 : Option Addr) (c0 : Nat) (l0 : List Int) (a1 : Int) (a2 : Int) (r : Bool) (w : World) (hr0 : Kd.C (Kd.int .i64) w A0 l0.length l0) (hc0 : l0.length ≤ c0) (h : spec_allIn.f k l0 a1 a2 = some r) :
  Calls Try.prog 135 #[.slice A0 l0.length c0, .int .i64 a1, .int .i64 a2] w fun e w' => e = .returned (.bool r) ∧ Drawn0 w w' := by
 have HR0 := Aside0.mk hr0
 have HC0 := Aside0.mk hc0
 clear hr0 hc0
 have H : (spec_allIn.l0 k l0 a1 a2 0) = some r := h
 clear h
 have H' := Aside0.mk H
 clear H
 go_enter Try.func135, Try.ntmps135
 go_wp2
 go_loopg [7] k (fun kq v7 w' => ∃ (x7_1 : Int), v7 = .int .i64 x7_1 ∧ Aside0 (spec_allIn.l0 kq l0 a1 a2 x7_1 = some r) ∧ Aside0 (kq ≤ k) ∧ Drawn0 w w')
 case atStart => exact ⟨(0), (by first | rfl | (simp; done) | (simp [*]; done)), H', ⟨Nat.le_refl _⟩, by repeat (first | exact Drawn0.refl _ | apply Drawn0.step)⟩
 case round =>
  clear H'
  try clear c1
  try clear p2
  obtain ⟨x7_1, rfl, HA, HK1, ⟨m1, rfl⟩⟩ := hrel
  cases gk with
  | zero => exact absurd HA.out (by simp [spec_allIn.l0])
  | succ k1 =>
   have H := HA.out
   clear HA
   simp only [spec_allIn.l0] at H
   by_cases c4 : x7_1 < (l0.length : Int)
   ·rw [if_pos c4] at H
    have c4b0 : decide (x7_1 < (l0.length : Int)) = true := decide_eq_true c4
    clear c4
    by_cases c5 : 0 ≤ x7_1
    ·rw [if_pos c5] at H
     have c5b0 : decide (0 ≤ x7_1) = true := decide_eq_true c5
     clear c5
     replace H := Option.bind_eq_some_iff.mp H
     obtain ⟨t136002, A60, H⟩ := H
     replace H : (if t136002 = true then (spec_allIn.l0 k1 l0 a1 a2 (wrap64 (x7_1 + 1))) else (some false)) = some r := H
     have A6 := Aside0.mk A60
     clear A60
     by_cases c7 : t136002 = true
     ·subst c7
      have H1 : (spec_allIn.l0 k1 l0 a1 a2 (wrap64 (x7_1 + 1))) = some r := by rw [if_pos rfl] at H; exact H
      clear H
      have H := H1
      clear H1
      have H' := Aside0.mk H
      clear H
      have p136001 : 0 ≤ (x7_1 : Int) := of_decide_eq_true (by first | (with_reducible assumption) | assumption)
      have q136001 : x7_1 < (l0.length : Int) := of_decide_eq_true (by first | (with_reducible assumption) | assumption)
      obtain ⟨ad136001, e136001, hx136001_0⟩ := Kd.at_int HR0.out x7_1 p136001 q136001
      cases e136001
      replace p136001 := eq_true p136001
      replace q136001 := eq_true q136001
      go_wp2_with (first | ((with_reducible refine gate_callee (f := 110) rfl ?_); refine goesL_ (some 20) rfl rfl Try.func110 (by kernel_rfl) rfl #[.int .i64 (rd l0 x7_1), .int .i64 a1, .int .i64 a2] rfl (by (try simp only [List.map_toArray, List.map_cons, List.map_nil]); first | done | rfl | (simp only [List.length_drop, List.length_take]; rfl)) ?_; (with_reducible refine (spec_inRange.calls (rd l0 x7_1) a1 a2 true _ A6.out).mono ?_); rintro e w' ⟨rfl, ⟨nd, rfl⟩⟩; refine ⟨_, rfl, ?_⟩))
      go_roundg k1
      case measure => have := HK1.out; omega
      case rel => exact ⟨(wrap64 (x7_1 + 1)), (by first | rfl | (simp; done) | (simp [*]; done)), H', ⟨by have := HK1.out; omega⟩, by repeat (first | exact Drawn0.refl _ | apply Drawn0.step)⟩
     ·replace c7 := Bool.eq_false_iff.mpr c7
      subst c7
      have H1 : (some false) = some r := by rw [if_neg (show ¬ (false = true) by decide)] at H; exact H
      clear H
      have H := H1
      clear H1
      obtain rfl := Option.some.inj H
      have p136001 : 0 ≤ (x7_1 : Int) := of_decide_eq_true (by first | (with_reducible assumption) | assumption)
      have q136001 : x7_1 < (l0.length : Int) := of_decide_eq_true (by first | (with_reducible assumption) | assumption)
      obtain ⟨ad136001, e136001, hx136001_0⟩ := Kd.at_int HR0.out x7_1 p136001 q136001
      cases e136001
      replace p136001 := eq_true p136001
      replace q136001 := eq_true q136001
      go_wp2_with (first | ((with_reducible refine gate_callee (f := 110) rfl ?_); refine goesL_ (some 20) rfl rfl Try.func110 (by kernel_rfl) rfl #[.int .i64 (rd l0 x7_1), .int .i64 a1, .int .i64 a2] rfl (by (try simp only [List.map_toArray, List.map_cons, List.map_nil]); first | done | rfl | (simp only [List.length_drop, List.length_take]; rfl)) ?_; (with_reducible refine (spec_inRange.calls (rd l0 x7_1) a1 a2 false _ A6.out).mono ?_); rintro e w' ⟨rfl, ⟨nd, rfl⟩⟩; refine ⟨_, rfl, ?_⟩))
      go_ret
      exact ⟨by first | rfl | (simp; done) | (simp [*]; done), by repeat (first | exact Drawn0.refl _ | apply Drawn0.step)⟩
    ·rw [if_neg c5] at H
     exact absurd H (by simp)
   ·rw [if_neg c4] at H
    have c4b0 : decide (x7_1 < (l0.length : Int)) = false := decide_eq_false c4
    clear c4
    obtain rfl := Option.some.inj H
    go_wp2
    go_ret
    exact ⟨by first | rfl | (simp; done) | (simp [*]; done), by repeat (first | exact Drawn0.refl _ | apply Drawn0.step)⟩


def spec_validImage.f (k : Nat) (a0_0 : Int) (a0_1 : Int) (a0_2 : Int) (l0_3 : List Int) : Option Bool := (spec_validShape.f a0_0 a0_1 a0_2).bind fun tz1 => (if tz1 = true then (if (l0_3.length : Int) = (wrap64 ((wrap64 (a0_0 * a0_1)) * a0_2)) then ((spec_allIn.f k l0_3 0 255).bind fun tz0 => (some tz0)) else (some false)) else (some false))
theorem spec_validImage.mono : ∀ a0 a1 a2 a3 k, LeO (spec_validImage.f k a0 a1 a2 a3) (spec_validImage.f (k + 1) a0 a1 a2 a3) := by
 intro a0 a1 a2 a3 k
 unfold spec_validImage.f
 repeat' first | (with_reducible exact spec_allIn.mono _ _ _ _) | (with_reducible exact LeO.refl _) | (with_reducible refine LeO.ite ?_ ?_) | (with_reducible refine LeO.bind ?_ (fun _ => ?_))
set_option maxHeartbeats 8000000 in
set_option maxRecDepth 100000 in
theorem spec_validImage.calls (k : Nat) (a0_0 : Int) (a0_1 : Int) (a0_2 : Int) (A0_3 : Option Addr) (c0_3 : Nat) (l0_3 : List Int) (r : Bool) (w : World) (hr0_3 : Kd.C (Kd.int .i64) w A0_3 l0_3.length l0_3) (hc0_3 : l0_3.length ≤ c0_3) (h : spec_validImage.f k a0_0 a0_1 a0_2 l0_3 = some r) :
  Calls Try.prog 89 #[.agg #[.int .i64 a0_0, .int .i64 a0_1, .int .i64 a0_2, .slice A0_3 l0_3.length c0_3]] w fun e w' => e = .returned (.bool r) ∧ Below w.heap.size w w' := by
 have hu27 := Try.underlying27
 have HR0_3 := Aside0.mk hr0_3
 have HC0_3 := Aside0.mk hc0_3
 clear hr0_3 hc0_3
 have HB := Aside0.mk (Below.refl w.heap.size w)
 have H : ((spec_validShape.f a0_0 a0_1 a0_2).bind fun tz1 => (if tz1 = true then (if (l0_3.length : Int) = (wrap64 ((wrap64 (a0_0 * a0_1)) * a0_2)) then ((spec_allIn.f k l0_3 0 255).bind fun tz0 => (some tz0)) else (some false)) else (some false))) = some r := h
 clear h
 replace H := Option.bind_eq_some_iff.mp H
 obtain ⟨tz1, A20, H⟩ := H
 replace H : (if tz1 = true then (if (l0_3.length : Int) = (wrap64 ((wrap64 (a0_0 * a0_1)) * a0_2)) then ((spec_allIn.f k l0_3 0 255).bind fun tz0 => (some tz0)) else (some false)) else (some false)) = some r := H
 have A2 := Aside0.mk A20
 clear A20
 by_cases c3 : tz1 = true
 ·subst c3
  have H1 : (if (l0_3.length : Int) = (wrap64 ((wrap64 (a0_0 * a0_1)) * a0_2)) then ((spec_allIn.f k l0_3 0 255).bind fun tz0 => (some tz0)) else (some false)) = some r := by rw [if_pos rfl] at H; exact H
  clear H
  have H := H1
  clear H1
  by_cases c4 : (l0_3.length : Int) = (wrap64 ((wrap64 (a0_0 * a0_1)) * a0_2))
  ·rw [if_pos c4] at H
   have c4b0 : ((l0_3.length : Int) == (wrap64 ((wrap64 (a0_0 * a0_1)) * a0_2))) = true := beq_iff_eq.mpr c4
   have c4b1 : ((l0_3.length : Int) != (wrap64 ((wrap64 (a0_0 * a0_1)) * a0_2))) = false := bne_eq_false_iff_eq.mpr c4
   clear c4
   replace H := Option.bind_eq_some_iff.mp H
   obtain ⟨tz0, A50, H⟩ := H
   replace H : (some tz0) = some r := H
   have A5 := Aside0.mk A50
   clear A50
   obtain rfl := Option.some.inj H
   go_enter Try.func89, Try.ntmps89
   go_wp2_with (first | ((with_reducible refine gate_dst (N := 1) rfl ?_); (try (refine gate_guard (by rfl) ?_; dsimp only)); refine box_event (by rfl) (N := 1) (by rfl) (cs := #[.int .i64 a0_0, .int .i64 a0_1, .int .i64 a0_2, .slice A0_3 l0_3.length c0_3]) (t := 27) (by go_simp; done) ?_; intro gbz0 hg w6 hbox hb; replace HB := Aside0.mk (below_step HB.out hb); have BKz0 := Aside0.mk (hbox); clear hb hbox hg; have hcz7_0 : w6.cell? ⟨gbz0, 0, none⟩ = some (.int .i64 a0_0) := (blk_cell BKz0.out 0).trans rfl; have hcz7_1 : w6.cell? ⟨gbz0, 1, none⟩ = some (.int .i64 a0_1) := (blk_cell BKz0.out 1).trans rfl; have hcz7_2 : w6.cell? ⟨gbz0, 2, none⟩ = some (.int .i64 a0_2) := (blk_cell BKz0.out 2).trans rfl; have hcz7_3 : w6.cell? ⟨gbz0, 3, none⟩ = some (.slice A0_3 l0_3.length c0_3) := (blk_cell BKz0.out 3).trans rfl) | ((with_reducible refine gate_callee (f := 134) rfl ?_); refine goesL_ (some 9) rfl rfl Try.func134 (by kernel_rfl) rfl #[.int .i64 a0_0, .int .i64 a0_1, .int .i64 a0_2] rfl (by (try simp only [List.map_toArray, List.map_cons, List.map_nil]); rfl) ?_; (with_reducible refine (spec_validShape.calls a0_0 a0_1 a0_2 true _ A2.out).mono ?_); rintro e w' ⟨rfl, ⟨nd, rfl⟩⟩; refine ⟨_, rfl, ?_⟩) | (go_at_call 135; (with_reducible refine (spec_allIn.calls k _ _ l0_3 0 255 tz0 _ ?side1 ?side2 A5.out).mono ?_); (case side1 => repeat (exact (Kd.C_below HR0_3.out (by repeat (with_reducible first | exact HB.out | apply pw_below_drewN))))); (case side2 => exact HC0_3.out); rintro e w' ⟨rfl, ⟨nd, rfl⟩⟩))
   go_ret
   exact ⟨by rfl, by repeat (with_reducible first | exact HB.out | apply pw_below_drewN)⟩
  rw [if_neg c4] at H
  have c4b0 : ((l0_3.length : Int) == (wrap64 ((wrap64 (a0_0 * a0_1)) * a0_2))) = false := beq_eq_false_iff_ne.mpr c4
  have c4b1 : ((l0_3.length : Int) != (wrap64 ((wrap64 (a0_0 * a0_1)) * a0_2))) = true := bne_iff_ne.mpr c4
  obtain rfl := Option.some.inj H
  go_enter Try.func89, Try.ntmps89
  go_wp2_with (first | ((with_reducible refine gate_dst (N := 1) rfl ?_); (try (refine gate_guard (by rfl) ?_; dsimp only)); refine box_event (by rfl) (N := 1) (by rfl) (cs := #[.int .i64 a0_0, .int .i64 a0_1, .int .i64 a0_2, .slice A0_3 l0_3.length c0_3]) (t := 27) (by go_simp; done) ?_; intro gbz0 hg w8 hbox hb; replace HB := Aside0.mk (below_step HB.out hb); have BKz0 := Aside0.mk (hbox); clear hb hbox hg; have hcz9_0 : w8.cell? ⟨gbz0, 0, none⟩ = some (.int .i64 a0_0) := (blk_cell BKz0.out 0).trans rfl; have hcz9_1 : w8.cell? ⟨gbz0, 1, none⟩ = some (.int .i64 a0_1) := (blk_cell BKz0.out 1).trans rfl; have hcz9_2 : w8.cell? ⟨gbz0, 2, none⟩ = some (.int .i64 a0_2) := (blk_cell BKz0.out 2).trans rfl; have hcz9_3 : w8.cell? ⟨gbz0, 3, none⟩ = some (.slice A0_3 l0_3.length c0_3) := (blk_cell BKz0.out 3).trans rfl) | ((with_reducible refine gate_callee (f := 134) rfl ?_); refine goesL_ (some 9) rfl rfl Try.func134 (by kernel_rfl) rfl #[.int .i64 a0_0, .int .i64 a0_1, .int .i64 a0_2] rfl (by (try simp only [List.map_toArray, List.map_cons, List.map_nil]); rfl) ?_; (with_reducible refine (spec_validShape.calls a0_0 a0_1 a0_2 true _ A2.out).mono ?_); rintro e w' ⟨rfl, ⟨nd, rfl⟩⟩; refine ⟨_, rfl, ?_⟩))
  go_ret
  exact ⟨by rfl, by repeat (with_reducible first | exact HB.out | apply pw_below_drewN)⟩
 replace c3 := Bool.eq_false_iff.mpr c3
 subst c3
 have H1 : (some false) = some r := by rw [if_neg (show ¬ (false = true) by decide)] at H; exact H
 clear H
 have H := H1
 clear H1
 obtain rfl := Option.some.inj H
 go_enter Try.func89, Try.ntmps89
 go_wp2_with (first | ((with_reducible refine gate_dst (N := 1) rfl ?_); (try (refine gate_guard (by rfl) ?_; dsimp only)); refine box_event (by rfl) (N := 1) (by rfl) (cs := #[.int .i64 a0_0, .int .i64 a0_1, .int .i64 a0_2, .slice A0_3 l0_3.length c0_3]) (t := 27) (by go_simp; done) ?_; intro gbz0 hg w10 hbox hb; replace HB := Aside0.mk (below_step HB.out hb); have BKz0 := Aside0.mk (hbox); clear hb hbox hg; have hcz11_0 : w10.cell? ⟨gbz0, 0, none⟩ = some (.int .i64 a0_0) := (blk_cell BKz0.out 0).trans rfl; have hcz11_1 : w10.cell? ⟨gbz0, 1, none⟩ = some (.int .i64 a0_1) := (blk_cell BKz0.out 1).trans rfl; have hcz11_2 : w10.cell? ⟨gbz0, 2, none⟩ = some (.int .i64 a0_2) := (blk_cell BKz0.out 2).trans rfl) | ((with_reducible refine gate_callee (f := 134) rfl ?_); refine goesL_ (some 9) rfl rfl Try.func134 (by kernel_rfl) rfl #[.int .i64 a0_0, .int .i64 a0_1, .int .i64 a0_2] rfl (by (try simp only [List.map_toArray, List.map_cons, List.map_nil]); rfl) ?_; (with_reducible refine (spec_validShape.calls a0_0 a0_1 a0_2 false _ A2.out).mono ?_); rintro e w' ⟨rfl, ⟨nd, rfl⟩⟩; refine ⟨_, rfl, ?_⟩))
 go_ret
 exact ⟨by rfl, by repeat (with_reducible first | exact HB.out | apply pw_below_drewN)⟩

end Go.Proofs.Ytnofkbbcbpjhfaa.Q

namespace Go.Proofs.Ytnofkbbcbpjhfaa.Q
open Go.RowKit Go.Proofs.YtnofkbbcbpjhfaaW.PrintWords Go.Proofs.YtnofkbbcbpjhfaaW.PrintLast Go.Proofs.YtnofkbbcbpjhfaaW.PrintMore
open Go.Proofs.YtnofkbbcbpjhfaaW.PrintWords.Aside0 (mk)
attribute [local go_sem] max2_int min2_int max_two min_two max_three min_three max_four min_four
set_option linter.unusedVariables false
set_option linter.unusedSimpArgs false
def spec_validLayer.f (k : Nat) (a0_0 : Int) (a0_1 : Int) (a0_2 : Int) (l0_3 : List Int) (a0_4 : Int) (a0_5 : Int) (a0_6 : Int) (a0_7 : Int) (a0_8 : Bool) (a1 : Int) : Option Bool := (spec_validImage.f k a0_0 a0_1 a0_2 l0_3).bind fun t102002 => (if t102002 = true then (if a0_2 = a1 then ((spec_inRange.f a0_4 (-16) 16).bind fun t102003 => (if t102003 = true then ((spec_inRange.f a0_5 (-16) 16).bind fun t102004 => (if t102004 = true then ((spec_inRange.f a0_6 0 4).bind fun t102005 => (if t102005 = true then ((spec_inRange.f a0_7 0 255).bind fun t102006 => (some t102006)) else (some false))) else (some false))) else (some false))) else (some false)) else (some false))
theorem spec_validLayer.mono : ∀ a0 a1 a2 a3 a4 a5 a6 a7 a8 a9 k, LeO (spec_validLayer.f k a0 a1 a2 a3 a4 a5 a6 a7 a8 a9) (spec_validLayer.f (k + 1) a0 a1 a2 a3 a4 a5 a6 a7 a8 a9) := by
 intro a0 a1 a2 a3 a4 a5 a6 a7 a8 a9 k
 unfold spec_validLayer.f
 repeat' first | (with_reducible exact spec_validImage.mono _ _ _ _ _) | (with_reducible exact LeO.refl _) | (with_reducible refine LeO.bind ?_ (fun _ => ?_))
set_option maxHeartbeats 8000000 in
set_option maxRecDepth 100000 in
theorem spec_validLayer.calls (k : Nat) (a0_0 : Int) (a0_1 : Int) (a0_2 : Int) (A0_3 : Option Addr) (c0_3 : Nat) (l0_3 : List Int) (a0_4 : Int) (a0_5 : Int) (a0_6 : Int) (a0_7 : Int) (a0_8 : Bool) (a1 : Int) (r : Bool) (w : World) (hr0_3 : Kd.C (Kd.int .i64) w A0_3 l0_3.length l0_3) (hc0_3 : l0_3.length ≤ c0_3) (h : spec_validLayer.f k a0_0 a0_1 a0_2 l0_3 a0_4 a0_5 a0_6 a0_7 a0_8 a1 = some r) :
  Calls Try.prog 101 #[.agg #[.int .i64 a0_0, .int .i64 a0_1, .int .i64 a0_2, .slice A0_3 l0_3.length c0_3, .int .i64 a0_4, .int .i64 a0_5, .int .i64 a0_6, .int .i64 a0_7, .bool a0_8], .int .i64 a1] w fun e w' => e = .returned (.bool r) ∧ Below w.heap.size w w' := by
 have hu55 := Try.underlying55
 have hu27 := Try.underlying27
 have HR0_3 := mk hr0_3
 have HC0_3 := mk hc0_3
 clear hr0_3 hc0_3
 have HB := mk (Below.refl w.heap.size w)
 have H : ((spec_validImage.f k a0_0 a0_1 a0_2 l0_3).bind fun t102002 => (if t102002 = true then (if a0_2 = a1 then ((spec_inRange.f a0_4 (-16) 16).bind fun t102003 => (if t102003 = true then ((spec_inRange.f a0_5 (-16) 16).bind fun t102004 => (if t102004 = true then ((spec_inRange.f a0_6 0 4).bind fun t102005 => (if t102005 = true then ((spec_inRange.f a0_7 0 255).bind fun t102006 => (some t102006)) else (some false))) else (some false))) else (some false))) else (some false)) else (some false))) = some r := h
 clear h
 replace H := Option.bind_eq_some_iff.mp H
 obtain ⟨t102002, A30, H⟩ := H
 replace H : (if t102002 = true then (if a0_2 = a1 then ((spec_inRange.f a0_4 (-16) 16).bind fun t102003 => (if t102003 = true then ((spec_inRange.f a0_5 (-16) 16).bind fun t102004 => (if t102004 = true then ((spec_inRange.f a0_6 0 4).bind fun t102005 => (if t102005 = true then ((spec_inRange.f a0_7 0 255).bind fun t102006 => (some t102006)) else (some false))) else (some false))) else (some false))) else (some false)) else (some false)) = some r := H
 have A3 := mk A30
 clear A30
 by_cases c4 : t102002 = true
 ·subst c4
  have H1 : (if a0_2 = a1 then ((spec_inRange.f a0_4 (-16) 16).bind fun t102003 => (if t102003 = true then ((spec_inRange.f a0_5 (-16) 16).bind fun t102004 => (if t102004 = true then ((spec_inRange.f a0_6 0 4).bind fun t102005 => (if t102005 = true then ((spec_inRange.f a0_7 0 255).bind fun t102006 => (some t102006)) else (some false))) else (some false))) else (some false))) else (some false)) = some r := by rw [if_pos rfl] at H; exact H
  clear H
  have H := H1
  clear H1
  by_cases c5 : a0_2 = a1
  ·rw [if_pos c5] at H
   have c5b0 : (a0_2 == a1) = true := beq_iff_eq.mpr c5
   have c5b1 : (a0_2 != a1) = false := bne_eq_false_iff_eq.mpr c5
   clear c5
   replace H := Option.bind_eq_some_iff.mp H
   obtain ⟨t102003, A60, H⟩ := H
   replace H : (if t102003 = true then ((spec_inRange.f a0_5 (-16) 16).bind fun t102004 => (if t102004 = true then ((spec_inRange.f a0_6 0 4).bind fun t102005 => (if t102005 = true then ((spec_inRange.f a0_7 0 255).bind fun t102006 => (some t102006)) else (some false))) else (some false))) else (some false)) = some r := H
   have A6 := mk A60
   clear A60
   by_cases c7 : t102003 = true
   ·subst c7
    have H1 : ((spec_inRange.f a0_5 (-16) 16).bind fun t102004 => (if t102004 = true then ((spec_inRange.f a0_6 0 4).bind fun t102005 => (if t102005 = true then ((spec_inRange.f a0_7 0 255).bind fun t102006 => (some t102006)) else (some false))) else (some false))) = some r := by rw [if_pos rfl] at H; exact H
    clear H
    have H := H1
    clear H1
    replace H := Option.bind_eq_some_iff.mp H
    obtain ⟨t102004, A80, H⟩ := H
    replace H : (if t102004 = true then ((spec_inRange.f a0_6 0 4).bind fun t102005 => (if t102005 = true then ((spec_inRange.f a0_7 0 255).bind fun t102006 => (some t102006)) else (some false))) else (some false)) = some r := H
    have A8 := mk A80
    clear A80
    by_cases c9 : t102004 = true
    ·subst c9
     have H1 : ((spec_inRange.f a0_6 0 4).bind fun t102005 => (if t102005 = true then ((spec_inRange.f a0_7 0 255).bind fun t102006 => (some t102006)) else (some false))) = some r := by rw [if_pos rfl] at H; exact H
     clear H
     have H := H1
     clear H1
     replace H := Option.bind_eq_some_iff.mp H
     obtain ⟨t102005, A100, H⟩ := H
     replace H : (if t102005 = true then ((spec_inRange.f a0_7 0 255).bind fun t102006 => (some t102006)) else (some false)) = some r := H
     have A10 := mk A100
     clear A100
     by_cases c11 : t102005 = true
     ·subst c11
      have H1 : ((spec_inRange.f a0_7 0 255).bind fun t102006 => (some t102006)) = some r := by rw [if_pos rfl] at H; exact H
      clear H
      have H := H1
      clear H1
      replace H := Option.bind_eq_some_iff.mp H
      obtain ⟨t102006, A120, H⟩ := H
      replace H : (some t102006) = some r := H
      have A12 := mk A120
      clear A120
      obtain rfl := Option.some.inj H
      go_enter Try.func101, Try.ntmps101
      go_wp2_with (first | ((with_reducible refine gate_dst (N := 2) rfl ?_); refine box_event ?hg (N := 2) ?hd (cs := #[.int .i64 a0_0, .int .i64 a0_1, .int .i64 a0_2, .slice A0_3 l0_3.length c0_3, .int .i64 a0_4, .int .i64 a0_5, .int .i64 a0_6, .int .i64 a0_7, .bool a0_8]) (t := 55) ?hr ?_; (case hd => rfl); (case hg => rfl); (case hr => (go_simp; done)); intro gb102001 hg w13 hbox hb; have n0_ := mk (below_step HB.out hb); have n1_ := mk (hbox); have n2_ := mk ((by rw [hg]; exact (below_size HB.out) : w.heap.size ≤ gb102001)); have n3_ := mk ((by rw [hg]; exact (below_size HB.out) : w.heap.size ≤ gb102001)); clear HB; have HB := n0_; have BK102001 := n1_; have GW102001 := n2_; have GE102001 := n3_; clear n0_ n1_ n2_ n3_; clear hb hbox hg; obtain ⟨hcz14_0, hcz14_1, hcz14_2, hcz14_3, hcz14_4, hcz14_5, hcz14_6, hcz14_7, hcz14_8, hfz14_0, hfz14_1, hfz14_2, hfz14_3, hfz14_4, hfz14_5, hfz14_6, hfz14_7, -⟩ := c9 BK102001.out; have hfz14_8 := blk_frozen BK102001.out 8) | ((with_reducible refine gate_callee (f := 89) rfl ?_); refine goesL_ (some 7) rfl rfl Try.func89 (by kernel_rfl) rfl #[.agg #[.int .i64 a0_0, .int .i64 a0_1, .int .i64 a0_2, .slice A0_3 l0_3.length c0_3]] rfl (by (try simp only [List.map_toArray, List.map_cons, List.map_nil]); rfl) ?_; (with_reducible refine (spec_validImage.calls k a0_0 a0_1 a0_2 _ _ l0_3 true _ ?side1 ?side2 A3.out).mono ?_); (case side1 => repeat (exact (Kd.C_below HR0_3.out HB.out))); (case side2 => exact HC0_3.out); rintro e w15 ⟨rfl, hb⟩; refine ⟨_, rfl, ?_⟩; have n0_ := mk (blk_below BK102001.out hb); have n1_ := mk (below_step HB.out hb); clear BK102001; clear HB; have BK102001 := n0_; have HB := n1_; clear n0_ n1_; (try clear hb); obtain ⟨hcz16_0, hcz16_1, hcz16_2, hcz16_3, hcz16_4, hcz16_5, hcz16_6, hcz16_7, hcz16_8, hfz16_0, hfz16_1, hfz16_2, hfz16_3, hfz16_4, hfz16_5, hfz16_6, hfz16_7, -⟩ := c9 BK102001.out; have hfz16_8 := blk_frozen BK102001.out 8) | (go_at_call 110; (with_reducible refine (spec_inRange.calls a0_4 (-16) 16 true _ A6.out).mono ?_); rintro e w' ⟨rfl, ⟨nd, rfl⟩⟩) | (go_at_call 110; (with_reducible refine (spec_inRange.calls a0_5 (-16) 16 true _ A8.out).mono ?_); rintro e w' ⟨rfl, ⟨nd, rfl⟩⟩) | (go_at_call 110; (with_reducible refine (spec_inRange.calls a0_6 0 4 true _ A10.out).mono ?_); rintro e w' ⟨rfl, ⟨nd, rfl⟩⟩) | (go_at_call 110; (with_reducible refine (spec_inRange.calls a0_7 0 255 t102006 _ A12.out).mono ?_); rintro e w' ⟨rfl, ⟨nd, rfl⟩⟩))
      go_ret
      exact ⟨by rfl, by repeat (with_reducible first | exact HB.out | apply pw_below_drewN)⟩
     ·replace c11 := Bool.eq_false_iff.mpr c11
      subst c11
      have H1 : (some false) = some r := by rw [if_neg (show ¬ (false = true) by decide)] at H; exact H
      clear H
      have H := H1
      clear H1
      obtain rfl := Option.some.inj H
      go_enter Try.func101, Try.ntmps101
      go_wp2_with (first | ((with_reducible refine gate_dst (N := 2) rfl ?_); refine box_event ?hg (N := 2) ?hd (cs := #[.int .i64 a0_0, .int .i64 a0_1, .int .i64 a0_2, .slice A0_3 l0_3.length c0_3, .int .i64 a0_4, .int .i64 a0_5, .int .i64 a0_6, .int .i64 a0_7, .bool a0_8]) (t := 55) ?hr ?_; (case hd => rfl); (case hg => rfl); (case hr => (go_simp; done)); intro gb102001 hg w17 hbox hb; have n0_ := mk (below_step HB.out hb); have n1_ := mk (hbox); have n2_ := mk ((by rw [hg]; exact (below_size HB.out) : w.heap.size ≤ gb102001)); have n3_ := mk ((by rw [hg]; exact (below_size HB.out) : w.heap.size ≤ gb102001)); clear HB; have HB := n0_; have BK102001 := n1_; have GW102001 := n2_; have GE102001 := n3_; clear n0_ n1_ n2_ n3_; clear hb hbox hg; obtain ⟨hcz18_0, hcz18_1, hcz18_2, hcz18_3, hcz18_4, hcz18_5, hcz18_6, hcz18_7, hcz18_8, hfz18_0, hfz18_1, hfz18_2, hfz18_3, hfz18_4, hfz18_5, hfz18_6, hfz18_7, -⟩ := c9 BK102001.out; have hfz18_8 := blk_frozen BK102001.out 8) | ((with_reducible refine gate_callee (f := 89) rfl ?_); refine goesL_ (some 7) rfl rfl Try.func89 (by kernel_rfl) rfl #[.agg #[.int .i64 a0_0, .int .i64 a0_1, .int .i64 a0_2, .slice A0_3 l0_3.length c0_3]] rfl (by (try simp only [List.map_toArray, List.map_cons, List.map_nil]); rfl) ?_; (with_reducible refine (spec_validImage.calls k a0_0 a0_1 a0_2 _ _ l0_3 true _ ?side1 ?side2 A3.out).mono ?_); (case side1 => repeat (exact (Kd.C_below HR0_3.out HB.out))); (case side2 => exact HC0_3.out); rintro e w19 ⟨rfl, hb⟩; refine ⟨_, rfl, ?_⟩; have n0_ := mk (blk_below BK102001.out hb); have n1_ := mk (below_step HB.out hb); clear BK102001; clear HB; have BK102001 := n0_; have HB := n1_; clear n0_ n1_; (try clear hb); obtain ⟨hcz20_0, hcz20_1, hcz20_2, hcz20_3, hcz20_4, hcz20_5, hcz20_6, hcz20_7, hcz20_8, hfz20_0, hfz20_1, hfz20_2, hfz20_3, hfz20_4, hfz20_5, hfz20_6, hfz20_7, -⟩ := c9 BK102001.out; have hfz20_8 := blk_frozen BK102001.out 8) | (go_at_call 110; (with_reducible refine (spec_inRange.calls a0_4 (-16) 16 true _ A6.out).mono ?_); rintro e w' ⟨rfl, ⟨nd, rfl⟩⟩) | (go_at_call 110; (with_reducible refine (spec_inRange.calls a0_5 (-16) 16 true _ A8.out).mono ?_); rintro e w' ⟨rfl, ⟨nd, rfl⟩⟩) | (go_at_call 110; (with_reducible refine (spec_inRange.calls a0_6 0 4 false _ A10.out).mono ?_); rintro e w' ⟨rfl, ⟨nd, rfl⟩⟩))
      go_ret
      exact ⟨by rfl, by repeat (with_reducible first | exact HB.out | apply pw_below_drewN)⟩
    ·replace c9 := Bool.eq_false_iff.mpr c9
     subst c9
     have H1 : (some false) = some r := by rw [if_neg (show ¬ (false = true) by decide)] at H; exact H
     clear H
     have H := H1
     clear H1
     obtain rfl := Option.some.inj H
     go_enter Try.func101, Try.ntmps101
     go_wp2_with (first | ((with_reducible refine gate_dst (N := 2) rfl ?_); refine box_event ?hg (N := 2) ?hd (cs := #[.int .i64 a0_0, .int .i64 a0_1, .int .i64 a0_2, .slice A0_3 l0_3.length c0_3, .int .i64 a0_4, .int .i64 a0_5, .int .i64 a0_6, .int .i64 a0_7, .bool a0_8]) (t := 55) ?hr ?_; (case hd => rfl); (case hg => rfl); (case hr => (go_simp; done)); intro gb102001 hg w21 hbox hb; have n0_ := mk (below_step HB.out hb); have n1_ := mk (hbox); have n2_ := mk ((by rw [hg]; exact (below_size HB.out) : w.heap.size ≤ gb102001)); have n3_ := mk ((by rw [hg]; exact (below_size HB.out) : w.heap.size ≤ gb102001)); clear HB; have HB := n0_; have BK102001 := n1_; have GW102001 := n2_; have GE102001 := n3_; clear n0_ n1_ n2_ n3_; clear hb hbox hg; obtain ⟨hcz22_0, hcz22_1, hcz22_2, hcz22_3, hcz22_4, hcz22_5, hcz22_6, hcz22_7, hcz22_8, hfz22_0, hfz22_1, hfz22_2, hfz22_3, hfz22_4, hfz22_5, hfz22_6, hfz22_7, -⟩ := c9 BK102001.out; have hfz22_8 := blk_frozen BK102001.out 8) | ((with_reducible refine gate_callee (f := 89) rfl ?_); refine goesL_ (some 7) rfl rfl Try.func89 (by kernel_rfl) rfl #[.agg #[.int .i64 a0_0, .int .i64 a0_1, .int .i64 a0_2, .slice A0_3 l0_3.length c0_3]] rfl (by (try simp only [List.map_toArray, List.map_cons, List.map_nil]); rfl) ?_; (with_reducible refine (spec_validImage.calls k a0_0 a0_1 a0_2 _ _ l0_3 true _ ?side1 ?side2 A3.out).mono ?_); (case side1 => repeat (exact (Kd.C_below HR0_3.out HB.out))); (case side2 => exact HC0_3.out); rintro e w23 ⟨rfl, hb⟩; refine ⟨_, rfl, ?_⟩; have n0_ := mk (blk_below BK102001.out hb); have n1_ := mk (below_step HB.out hb); clear BK102001; clear HB; have BK102001 := n0_; have HB := n1_; clear n0_ n1_; (try clear hb); obtain ⟨hcz24_0, hcz24_1, hcz24_2, hcz24_3, hcz24_4, hcz24_5, hcz24_6, hcz24_7, hcz24_8, hfz24_0, hfz24_1, hfz24_2, hfz24_3, hfz24_4, hfz24_5, hfz24_6, hfz24_7, -⟩ := c9 BK102001.out; have hfz24_8 := blk_frozen BK102001.out 8) | (go_at_call 110; (with_reducible refine (spec_inRange.calls a0_4 (-16) 16 true _ A6.out).mono ?_); rintro e w' ⟨rfl, ⟨nd, rfl⟩⟩) | (go_at_call 110; (with_reducible refine (spec_inRange.calls a0_5 (-16) 16 false _ A8.out).mono ?_); rintro e w' ⟨rfl, ⟨nd, rfl⟩⟩))
     go_ret
     exact ⟨by rfl, by repeat (with_reducible first | exact HB.out | apply pw_below_drewN)⟩
   ·replace c7 := Bool.eq_false_iff.mpr c7
    subst c7
    have H1 : (some false) = some r := by rw [if_neg (show ¬ (false = true) by decide)] at H; exact H
    clear H
    have H := H1
    clear H1
    obtain rfl := Option.some.inj H
    go_enter Try.func101, Try.ntmps101
    go_wp2_with (first | ((with_reducible refine gate_dst (N := 2) rfl ?_); refine box_event ?hg (N := 2) ?hd (cs := #[.int .i64 a0_0, .int .i64 a0_1, .int .i64 a0_2, .slice A0_3 l0_3.length c0_3, .int .i64 a0_4, .int .i64 a0_5, .int .i64 a0_6, .int .i64 a0_7, .bool a0_8]) (t := 55) ?hr ?_; (case hd => rfl); (case hg => rfl); (case hr => (go_simp; done)); intro gb102001 hg w25 hbox hb; have n0_ := mk (below_step HB.out hb); have n1_ := mk (hbox); have n2_ := mk ((by rw [hg]; exact (below_size HB.out) : w.heap.size ≤ gb102001)); have n3_ := mk ((by rw [hg]; exact (below_size HB.out) : w.heap.size ≤ gb102001)); clear HB; have HB := n0_; have BK102001 := n1_; have GW102001 := n2_; have GE102001 := n3_; clear n0_ n1_ n2_ n3_; clear hb hbox hg; obtain ⟨hcz26_0, hcz26_1, hcz26_2, hcz26_3, hcz26_4, hcz26_5, hcz26_6, hcz26_7, hcz26_8, hfz26_0, hfz26_1, hfz26_2, hfz26_3, hfz26_4, hfz26_5, hfz26_6, hfz26_7, -⟩ := c9 BK102001.out; have hfz26_8 := blk_frozen BK102001.out 8) | ((with_reducible refine gate_callee (f := 89) rfl ?_); refine goesL_ (some 7) rfl rfl Try.func89 (by kernel_rfl) rfl #[.agg #[.int .i64 a0_0, .int .i64 a0_1, .int .i64 a0_2, .slice A0_3 l0_3.length c0_3]] rfl (by (try simp only [List.map_toArray, List.map_cons, List.map_nil]); rfl) ?_; (with_reducible refine (spec_validImage.calls k a0_0 a0_1 a0_2 _ _ l0_3 true _ ?side1 ?side2 A3.out).mono ?_); (case side1 => repeat (exact (Kd.C_below HR0_3.out HB.out))); (case side2 => exact HC0_3.out); rintro e w27 ⟨rfl, hb⟩; refine ⟨_, rfl, ?_⟩; have n0_ := mk (blk_below BK102001.out hb); have n1_ := mk (below_step HB.out hb); clear BK102001; clear HB; have BK102001 := n0_; have HB := n1_; clear n0_ n1_; (try clear hb); obtain ⟨hcz28_0, hcz28_1, hcz28_2, hcz28_3, hcz28_4, hcz28_5, hcz28_6, hcz28_7, hcz28_8, hfz28_0, hfz28_1, hfz28_2, hfz28_3, hfz28_4, hfz28_5, hfz28_6, hfz28_7, -⟩ := c9 BK102001.out; have hfz28_8 := blk_frozen BK102001.out 8) | (go_at_call 110; (with_reducible refine (spec_inRange.calls a0_4 (-16) 16 false _ A6.out).mono ?_); rintro e w' ⟨rfl, ⟨nd, rfl⟩⟩))
    go_ret
    exact ⟨by rfl, by repeat (with_reducible first | exact HB.out | apply pw_below_drewN)⟩
  ·rw [if_neg c5] at H
   have c5b0 : (a0_2 == a1) = false := beq_eq_false_iff_ne.mpr c5
   have c5b1 : (a0_2 != a1) = true := bne_iff_ne.mpr c5
   obtain rfl := Option.some.inj H
   go_enter Try.func101, Try.ntmps101
   go_wp2_with (first | ((with_reducible refine gate_dst (N := 2) rfl ?_); refine box_event ?hg (N := 2) ?hd (cs := #[.int .i64 a0_0, .int .i64 a0_1, .int .i64 a0_2, .slice A0_3 l0_3.length c0_3, .int .i64 a0_4, .int .i64 a0_5, .int .i64 a0_6, .int .i64 a0_7, .bool a0_8]) (t := 55) ?hr ?_; (case hd => rfl); (case hg => rfl); (case hr => (go_simp; done)); intro gb102001 hg w29 hbox hb; have n0_ := mk (below_step HB.out hb); have n1_ := mk (hbox); have n2_ := mk ((by rw [hg]; exact (below_size HB.out) : w.heap.size ≤ gb102001)); have n3_ := mk ((by rw [hg]; exact (below_size HB.out) : w.heap.size ≤ gb102001)); clear HB; have HB := n0_; have BK102001 := n1_; have GW102001 := n2_; have GE102001 := n3_; clear n0_ n1_ n2_ n3_; clear hb hbox hg; obtain ⟨hcz30_0, hcz30_1, hcz30_2, hcz30_3, hcz30_4, hcz30_5, hcz30_6, hcz30_7, hcz30_8, hfz30_0, hfz30_1, hfz30_2, hfz30_3, hfz30_4, hfz30_5, hfz30_6, hfz30_7, -⟩ := c9 BK102001.out; have hfz30_8 := blk_frozen BK102001.out 8) | ((with_reducible refine gate_callee (f := 89) rfl ?_); refine goesL_ (some 7) rfl rfl Try.func89 (by kernel_rfl) rfl #[.agg #[.int .i64 a0_0, .int .i64 a0_1, .int .i64 a0_2, .slice A0_3 l0_3.length c0_3]] rfl (by (try simp only [List.map_toArray, List.map_cons, List.map_nil]); rfl) ?_; (with_reducible refine (spec_validImage.calls k a0_0 a0_1 a0_2 _ _ l0_3 true _ ?side1 ?side2 A3.out).mono ?_); (case side1 => repeat (exact (Kd.C_below HR0_3.out HB.out))); (case side2 => exact HC0_3.out); rintro e w31 ⟨rfl, hb⟩; refine ⟨_, rfl, ?_⟩; have n0_ := mk (blk_below BK102001.out hb); have n1_ := mk (below_step HB.out hb); clear BK102001; clear HB; have BK102001 := n0_; have HB := n1_; clear n0_ n1_; (try clear hb); obtain ⟨hcz32_0, hcz32_1, hcz32_2, hcz32_3, hcz32_4, hcz32_5, hcz32_6, hcz32_7, hcz32_8, hfz32_0, hfz32_1, hfz32_2, hfz32_3, hfz32_4, hfz32_5, hfz32_6, hfz32_7, hfz32_8⟩ := c9 BK102001.out))
   go_ret
   exact ⟨by rfl, by exact HB.out⟩
 ·replace c4 := Bool.eq_false_iff.mpr c4
  subst c4
  have H1 : (some false) = some r := by rw [if_neg (show ¬ (false = true) by decide)] at H; exact H
  clear H
  have H := H1
  clear H1
  obtain rfl := Option.some.inj H
  go_enter Try.func101, Try.ntmps101
  go_wp2_with (first | ((with_reducible refine gate_dst (N := 2) rfl ?_); refine box_event ?hg (N := 2) ?hd (cs := #[.int .i64 a0_0, .int .i64 a0_1, .int .i64 a0_2, .slice A0_3 l0_3.length c0_3, .int .i64 a0_4, .int .i64 a0_5, .int .i64 a0_6, .int .i64 a0_7, .bool a0_8]) (t := 55) ?hr ?_; (case hd => rfl); (case hg => rfl); (case hr => (go_simp; done)); intro gb102001 hg w33 hbox hb; have n0_ := mk (below_step HB.out hb); have n1_ := mk (hbox); have n2_ := mk ((by rw [hg]; exact (below_size HB.out) : w.heap.size ≤ gb102001)); have n3_ := mk ((by rw [hg]; exact (below_size HB.out) : w.heap.size ≤ gb102001)); clear HB; have HB := n0_; have BK102001 := n1_; have GW102001 := n2_; have GE102001 := n3_; clear n0_ n1_ n2_ n3_; clear hb hbox hg; obtain ⟨hcz34_0, hcz34_1, hcz34_2, hcz34_3, hcz34_4, hcz34_5, hcz34_6, hcz34_7, hcz34_8, hfz34_0, hfz34_1, hfz34_2, hfz34_3, hfz34_4, hfz34_5, hfz34_6, hfz34_7, -⟩ := c9 BK102001.out; have hfz34_8 := blk_frozen BK102001.out 8) | ((with_reducible refine gate_callee (f := 89) rfl ?_); refine goesL_ (some 7) rfl rfl Try.func89 (by kernel_rfl) rfl #[.agg #[.int .i64 a0_0, .int .i64 a0_1, .int .i64 a0_2, .slice A0_3 l0_3.length c0_3]] rfl (by (try simp only [List.map_toArray, List.map_cons, List.map_nil]); rfl) ?_; (with_reducible refine (spec_validImage.calls k a0_0 a0_1 a0_2 _ _ l0_3 false _ ?side1 ?side2 A3.out).mono ?_); (case side1 => repeat (exact (Kd.C_below HR0_3.out HB.out))); (case side2 => exact HC0_3.out); rintro e w35 ⟨rfl, hb⟩; refine ⟨_, rfl, ?_⟩; have n0_ := mk (blk_below BK102001.out hb); have n1_ := mk (below_step HB.out hb); clear BK102001; clear HB; have BK102001 := n0_; have HB := n1_; clear n0_ n1_; (try clear hb)))
  go_ret
  exact ⟨by rfl, by exact HB.out⟩


def spec_validLayers.l0 : Nat → List S55 → Int → Int → Option (Bool)
 | 0, _, _, _ => none
 | k + 1, x0, x1, x5 => if x5 < (x0.length : Int) then (if 0 ≤ x5 then ((spec_validLayer.f k ((rd_T55 x0 x5).f0.f0) ((rd_T55 x0 x5).f0.f1) ((rd_T55 x0 x5).f0.f2) ((rd_T55 x0 x5).f0.f3) ((rd_T55 x0 x5).f1) ((rd_T55 x0 x5).f2) ((rd_T55 x0 x5).f3) ((rd_T55 x0 x5).f4) ((rd_T55 x0 x5).f5) x1).bind fun tz0 => (if tz0 = true then (spec_validLayers.l0 k x0 x1 (wrap64 (x5 + 1))) else (some false))) else none) else (some (decide ((x0.length : Int) ≤ 6)))
def spec_validLayers.f (k : Nat) (l0 : List S55) (a1 : Int) : Option Bool := spec_validLayers.l0 k l0 a1 0
theorem spec_validLayers.mono_l : ∀ k, (∀ y0 y1 y2, LeO (spec_validLayers.l0 k y0 y1 y2) (spec_validLayers.l0 (k + 1) y0 y1 y2))
 | 0 => fun _ _ _ r h => by simp [spec_validLayers.l0] at h
 | k + 1 => by
  have ih0 := spec_validLayers.mono_l k
  ·intro y0 y1 y2
   unfold spec_validLayers.l0
   repeat' first | (with_reducible exact ih0 _ _ _) | (with_reducible exact spec_validLayer.mono _ _ _ _ _ _ _ _ _ _ _) | (with_reducible exact LeO.refl _) | (with_reducible refine LeO.ite ?_ ?_) | (with_reducible refine LeO.bind ?_ (fun _ => ?_))
theorem spec_validLayers.mono : ∀ a0 a1 k, LeO (spec_validLayers.f k a0 a1) (spec_validLayers.f (k + 1) a0 a1) := by
 intro a0 a1 k
 have ih0 := spec_validLayers.mono_l k
 unfold spec_validLayers.f
 repeat' (with_reducible exact ih0 _ _ _)
set_option maxHeartbeats 8000000 in
set_option maxRecDepth 100000 in
theorem spec_validLayers.calls (k : Nat) (A0 : Option Addr) (c0 : Nat) (l0 : List S55) (a1 : Int) (r : Bool) (w : World) (hr0 : Kd.C k55 w A0 l0.length l0) (hc0 : l0.length ≤ c0) (h : spec_validLayers.f k l0 a1 = some r) :
  Calls Try.prog 117 #[.slice A0 l0.length c0, .int .i64 a1] w fun e w' => e = .returned (.bool r) ∧ Below w.heap.size w w' := by
 have hu55 := Try.underlying55
 have HR0 := mk hr0
 have HC0 := mk hc0
 clear hr0 hc0
 have HB := mk (Below.refl w.heap.size w)
 have H : (spec_validLayers.l0 k l0 a1 0) = some r := h
 clear h
 have H' := mk H
 clear H
 go_enter Try.func117, Try.ntmps117
 go_wp2
 go_loopg [5] k (fun kq v5 w' => ∃ (x5_1 : Int), v5 = .int .i64 x5_1 ∧ Aside0 (spec_validLayers.l0 kq l0 a1 x5_1 = some r) ∧ Aside0 (kq ≤ k) ∧ Aside0 (Below w.heap.size w w'))
 case atStart => exact ⟨(0), (by rfl), H', ⟨Nat.le_refl _⟩, HB⟩
 case round =>
  clear H'
  obtain ⟨x5_1, rfl, HA, HK1, HB⟩ := hrel
  cases gk with
  | zero => exact absurd HA.out (by simp [spec_validLayers.l0])
  | succ k1 =>
   have H := HA.out
   clear HA
   simp only [spec_validLayers.l0] at H
   by_cases c3 : x5_1 < (l0.length : Int)
   ·rw [if_pos c3] at H
    have c3b0 : decide (x5_1 < (l0.length : Int)) = true := decide_eq_true c3
    clear c3
    by_cases c4 : 0 ≤ x5_1
    ·rw [if_pos c4] at H
     have c4b0 : decide (0 ≤ x5_1) = true := decide_eq_true c4
     clear c4
     replace H := Option.bind_eq_some_iff.mp H
     obtain ⟨tz0, A50, H⟩ := H
     replace H : (if tz0 = true then (spec_validLayers.l0 k1 l0 a1 (wrap64 (x5_1 + 1))) else (some false)) = some r := H
     have A5 := mk A50
     clear A50
     by_cases c6 : tz0 = true
     ·subst c6
      have H1 : (spec_validLayers.l0 k1 l0 a1 (wrap64 (x5_1 + 1))) = some r := by rw [if_pos rfl] at H; exact H
      clear H
      have H := H1
      clear H1
      have H' := mk H
      clear H
      have p118001 : 0 ≤ (x5_1 : Int) := of_decide_eq_true (by (with_reducible assumption))
      have q118001 : x5_1 < (l0.length : Int) := of_decide_eq_true (by (with_reducible assumption))
      obtain ⟨ad118001, Az0, cz0, e118001, hx118001_0, hx118001_1, hx118001_2, hx118001_3, hx118001_4, hx118001_5, hx118001_6, hx118001_7, hx118001_8, hl118001_3, hi118001_3⟩ := at_T55 HR0.out x5_1 p118001 q118001
      cases e118001
      replace hx118001_0 := bc HB.out hx118001_0
      replace hx118001_1 := bc HB.out hx118001_1
      replace hx118001_2 := bc HB.out hx118001_2
      replace hx118001_3 := bc HB.out hx118001_3
      replace hx118001_4 := bc HB.out hx118001_4
      replace hx118001_5 := bc HB.out hx118001_5
      replace hx118001_6 := bc HB.out hx118001_6
      replace hx118001_7 := bc HB.out hx118001_7
      replace hx118001_8 := bc HB.out hx118001_8
      have HR118001_3 := mk hi118001_3
      have HC118001_3 := mk hl118001_3
      clear hi118001_3 hl118001_3
      replace p118001 := eq_true p118001
      replace q118001 := eq_true q118001
      go_wp2_with (first | ((with_reducible refine gate_callee (f := 101) rfl ?_); refine goesL_ (some 17) rfl rfl Try.func101 (by kernel_rfl) rfl #[.agg #[.int .i64 ((rd_T55 l0 x5_1).f0.f0), .int .i64 ((rd_T55 l0 x5_1).f0.f1), .int .i64 ((rd_T55 l0 x5_1).f0.f2), .slice Az0 ((rd_T55 l0 x5_1).f0.f3).length cz0, .int .i64 ((rd_T55 l0 x5_1).f1), .int .i64 ((rd_T55 l0 x5_1).f2), .int .i64 ((rd_T55 l0 x5_1).f3), .int .i64 ((rd_T55 l0 x5_1).f4), .bool ((rd_T55 l0 x5_1).f5)], .int .i64 a1] rfl (by (try simp only [List.map_toArray, List.map_cons, List.map_nil]); rfl) ?_; (with_reducible refine (spec_validLayer.calls k1 ((rd_T55 l0 x5_1).f0.f0) ((rd_T55 l0 x5_1).f0.f1) ((rd_T55 l0 x5_1).f0.f2) _ _ ((rd_T55 l0 x5_1).f0.f3) ((rd_T55 l0 x5_1).f1) ((rd_T55 l0 x5_1).f2) ((rd_T55 l0 x5_1).f3) ((rd_T55 l0 x5_1).f4) ((rd_T55 l0 x5_1).f5) a1 true _ ?side1 ?side2 A5.out).mono ?_); (case side1 => repeat (exact (Kd.C_below HR118001_3.out HB.out))); (case side2 => exact HC118001_3.out); rintro e w7 ⟨rfl, hb⟩; refine ⟨_, rfl, ?_⟩; replace HB := mk (below_step HB.out hb); (try clear hb)))
      go_roundg k1
      case measure => have := HK1.out; omega
      case rel => exact ⟨(wrap64 (x5_1 + 1)), (by rfl), H', ⟨by have := HK1.out; omega⟩, HB⟩
     replace c6 := Bool.eq_false_iff.mpr c6
     subst c6
     have H1 : (some false) = some r := by rw [if_neg (show ¬ (false = true) by decide)] at H; exact H
     clear H
     have H := H1
     clear H1
     obtain rfl := Option.some.inj H
     have p118001 : 0 ≤ (x5_1 : Int) := of_decide_eq_true (by (with_reducible assumption))
     have q118001 : x5_1 < (l0.length : Int) := of_decide_eq_true (by (with_reducible assumption))
     obtain ⟨ad118001, Az0, cz0, e118001, hx118001_0, hx118001_1, hx118001_2, hx118001_3, hx118001_4, hx118001_5, hx118001_6, hx118001_7, hx118001_8, hl118001_3, hi118001_3⟩ := at_T55 HR0.out x5_1 p118001 q118001
     cases e118001
     replace hx118001_0 := bc HB.out hx118001_0
     replace hx118001_1 := bc HB.out hx118001_1
     replace hx118001_2 := bc HB.out hx118001_2
     replace hx118001_3 := bc HB.out hx118001_3
     replace hx118001_4 := bc HB.out hx118001_4
     replace hx118001_5 := bc HB.out hx118001_5
     replace hx118001_6 := bc HB.out hx118001_6
     replace hx118001_7 := bc HB.out hx118001_7
     replace hx118001_8 := bc HB.out hx118001_8
     have HR118001_3 := mk hi118001_3
     have HC118001_3 := mk hl118001_3
     clear hi118001_3 hl118001_3
     replace p118001 := eq_true p118001
     replace q118001 := eq_true q118001
     go_wp2_with (first | ((with_reducible refine gate_callee (f := 101) rfl ?_); refine goesL_ (some 17) rfl rfl Try.func101 (by kernel_rfl) rfl #[.agg #[.int .i64 ((rd_T55 l0 x5_1).f0.f0), .int .i64 ((rd_T55 l0 x5_1).f0.f1), .int .i64 ((rd_T55 l0 x5_1).f0.f2), .slice Az0 ((rd_T55 l0 x5_1).f0.f3).length cz0, .int .i64 ((rd_T55 l0 x5_1).f1), .int .i64 ((rd_T55 l0 x5_1).f2), .int .i64 ((rd_T55 l0 x5_1).f3), .int .i64 ((rd_T55 l0 x5_1).f4), .bool ((rd_T55 l0 x5_1).f5)], .int .i64 a1] rfl (by (try simp only [List.map_toArray, List.map_cons, List.map_nil]); rfl) ?_; (with_reducible refine (spec_validLayer.calls k1 ((rd_T55 l0 x5_1).f0.f0) ((rd_T55 l0 x5_1).f0.f1) ((rd_T55 l0 x5_1).f0.f2) _ _ ((rd_T55 l0 x5_1).f0.f3) ((rd_T55 l0 x5_1).f1) ((rd_T55 l0 x5_1).f2) ((rd_T55 l0 x5_1).f3) ((rd_T55 l0 x5_1).f4) ((rd_T55 l0 x5_1).f5) a1 false _ ?side1 ?side2 A5.out).mono ?_); (case side1 => repeat (exact (Kd.C_below HR118001_3.out HB.out))); (case side2 => exact HC118001_3.out); rintro e w8 ⟨rfl, hb⟩; refine ⟨_, rfl, ?_⟩; replace HB := mk (below_step HB.out hb); (try clear hb)))
     go_ret
     exact ⟨by rfl, by exact HB.out⟩
    rw [if_neg c4] at H
    exact absurd H (by simp)
   rw [if_neg c3] at H
   have c3b0 : decide (x5_1 < (l0.length : Int)) = false := decide_eq_false c3
   clear c3
   obtain rfl := Option.some.inj H
   go_wp2
   go_ret
   exact ⟨by rfl, by exact HB.out⟩

end Go.Proofs.Ytnofkbbcbpjhfaa.Q

namespace Go.Proofs.Ytnofkbbcbpjhfaa.Q
open Go.RowKit Go.Proofs.YtnofkbbcbpjhfaaW.PrintWords Go.Proofs.YtnofkbbcbpjhfaaW.PrintLast Go.Proofs.YtnofkbbcbpjhfaaW.PrintMore
attribute [local go_sem] max2_int min2_int max_two min_two max_three min_three max_four min_four
set_option linter.unusedVariables false
set_option linter.unusedSimpArgs false
def spec_copyInts.f (l0 : List Int) : Option (List Int) := (some (([] : List Int) : List Int)).bind fun y130001 => (if y130001.length + l0.length < 17592186044416 then (some (y130001 ++ l0)) else (none))
set_option maxHeartbeats 8000000 in
set_option maxRecDepth 100000 in
theorem spec_copyInts.calls (A0 : Option Addr) (c0 : Nat) (l0 : List Int) (r : List Int) (w : World) (hr0 : Kd.C (Kd.int .i64) w A0 l0.length l0) (hc0 : l0.length ≤ c0) (h : spec_copyInts.f l0 = some r) :
  Calls Try.prog 129 #[.slice A0 l0.length c0] w fun e w' => ∃ v0_ : Value, e = .returned (v0_) ∧ Kd.R (Kd.int .i64) 3 w' w.heap.size (fun _ => True) v0_ r ∧ Below w.heap.size w w' := by
 have HR0 := Aside0.mk hr0
 have HC0 := Aside0.mk hc0
 clear hr0 hc0
 have HB := Aside0.mk (Below.refl w.heap.size w)
 have H : ((some (([] : List Int) : List Int)).bind fun y130001 => (if y130001.length + l0.length < 17592186044416 then (some (y130001 ++ l0)) else (none))) = some r := h
 clear h
 obtain ⟨y130001, hy130001⟩ : ∃ y_ : List Int, y_ = (([] : List Int)) := ⟨_, rfl⟩
 replace H : (if y130001.length + l0.length < 17592186044416 then (some (y130001 ++ l0)) else (none)) = some r := by first | (rw [hy130001]; with_reducible exact H) | (have H2_ := (Option.bind_some _ _).symm.trans H; rw [hy130001]; with_reducible exact H2_) | (have H2_ := (Option.bind_some _ _).symm.trans H; with_reducible exact H2_) | with_reducible exact H | (rw [hy130001]; exact H) | exact H
 have Ny130001 := Aside0.mk hy130001
 clear hy130001
 by_cases c2 : y130001.length + l0.length < 17592186044416
 ·rw [if_pos c2] at H
  have LMc2 := Aside0.mk c2
  clear c2
  obtain ⟨y130004, hy130004⟩ : ∃ y_ : List Int, y_ = (y130001 ++ l0) := ⟨_, rfl⟩
  replace H : (some y130004) = some r := by first | (rw [hy130004]; with_reducible exact H) | (have H2_ := (Option.bind_some _ _).symm.trans H; rw [hy130004]; with_reducible exact H2_) | (have H2_ := (Option.bind_some _ _).symm.trans H; with_reducible exact H2_) | with_reducible exact H | (rw [hy130004]; exact H) | exact H
  have Ny130004 := Aside0.mk hy130004
  clear hy130004
  obtain rfl := Option.some.inj H
  go_enter Try.func129, Try.ntmps129
  go_wp2_with (first | ((with_reducible refine gate_dst (N := 3) rfl ?_); refine Kd.R_lit (Kd.int .i64) _ 3 ?hg (N := 3) ?hd (xs := ([] : List Int)) (inner := []) (ok := fun _ => True) (okp := fun _ => True) ?hr ?hp (fun _ hk => hk) trivial (Below.refl _ _) (Nat.le_refl _) (by simp) ?_; (case hd => rfl); (case hg => rfl); (case hr => first | (go_simp; done) | (go_simp; rfl)); (case hp => exact (Reps.none _ _)); intro v130002 w3 ho4 hb hg_ hnew_; clear hg_ hnew_; (first | rw [← Ny130001.out] at ho4 | (simp only [Int.reduceToNat] at ho4; rw [← Ny130001.out] at ho4)); have n0_ := Aside0.mk (Kd.R_lower ho4 (below_size (by repeat (first | (with_reducible first | exact HB.out | apply below_alloc | apply pw_below_drewN | apply below_drew1) | exact HB.out)))); have n1_ := Aside0.mk (below_step (by repeat (first | (with_reducible first | exact HB.out | apply below_alloc | apply pw_below_drewN | apply below_drew1) | exact HB.out)) hb); clear HB; have HO130003 := n0_; have HB := n1_; clear n0_ n1_; clear hb ho4) | ((with_reducible refine gate_builtin (b := .append) (xs := #[.tmp 3, .tmp 4]) rfl ?_); at_builtin; refine Kd.R_append_rows (Kd.int .i64) (w0 := w) w.heap.size rfl (.tmp 3) (.tmp 4) 22 3 (.int .i64 0) 8 rfl Try.underlying22 info3 rfl (by decide) (by omega) v130002 y130001 l0 _ _ _ (fun _ => True) (fun _ => False) rfl rfl ?aO ?aR (fun _ _ h => h) (fun _ h => h.elim) ?aF ?aB ?aS ?aL ?_; (case aR => repeat (first | exact (Kd.C_below HR0.out HB.out) | (with_reducible refine Kd.C_alloc ?_ _) | (with_reducible refine Kd.C_drewN ?_ _) | (with_reducible refine Kd.C_drew ?_))); (case aB => exact (by repeat (first | (with_reducible first | exact HB.out | apply below_alloc | apply pw_below_drewN | apply below_drew1) | exact HB.out))); (case aF => exact (fun _ _ => trivial)); (case aO => exact (by (with_reducible repeat (first | apply Kd.R_alloc | apply Kd.R_drewN | apply Kd.R_drew)); exact HO130003.out)); (case aS => exact (below_size (by repeat (first | (with_reducible first | exact HB.out | apply below_alloc | apply pw_below_drewN | apply below_drew1) | exact HB.out)))); (case aL => have := LMc2.out; omega); intro v130005 w5 ho hb hg hat; rw [← Ny130004.out] at ho; have n0_ := Aside0.mk (hb); have n1_ := Aside0.mk (ho); clear HB; clear HO130003; have HB := n0_; have HO130006 := n1_; clear n0_ n1_; clear ho hb hg hat))
  go_ret
  exact ⟨_, by first | rfl | (simp [errW_none, errW_some] <;> rfl) | (simp [*, errW_none, errW_some] <;> rfl), by (with_reducible repeat (first | apply Kd.R_alloc | apply Kd.R_drewN | apply Kd.R_drew)); exact HO130006.out, by repeat (first | (with_reducible first | exact HB.out | apply below_alloc | apply pw_below_drewN | apply below_drew1) | exact HB.out)⟩
 ·rw [if_neg c2] at H
  exact absurd H (by simp)

end Go.Proofs.Ytnofkbbcbpjhfaa.Q

namespace Go.Proofs.Ytnofkbbcbpjhfaa.Q
open Go.RowKit Go.Proofs.YtnofkbbcbpjhfaaW.PrintWords Go.Proofs.YtnofkbbcbpjhfaaW.PrintLast Go.Proofs.YtnofkbbcbpjhfaaW.PrintMore
open Go.Proofs.YtnofkbbcbpjhfaaW.PrintWords.Aside0 (mk)
attribute [local go_sem] max2_int min2_int max_two min_two max_three min_three max_four min_four
set_option linter.unusedVariables false
set_option linter.unusedSimpArgs false
def spec_copyImage.f (a0_0 : Int) (a0_1 : Int) (a0_2 : Int) (l0_3 : List Int) : Option (Int × Int × Int × List Int) := (spec_copyInts.f l0_3).bind fun t114003 => (some (a0_0, a0_1, a0_2, t114003))
def spec_copyImage.T1 : Bool × List (List Nat × List Nat) := (true, [([], []), ([0], [0]), ([], []), ([2], [2]), ([], []), ([4], [4]), ([], []), ([6], [6]), ([7], [7]), ([1, 3, 5, 8], [1, 3, 5, 8]), ([9, 8, 0, 1, 2, 3, 4, 5, 6, 7, 8, 9], [9])])
def spec_copyImage.B1 : List Nat := [0, 1, 0, 4, 0, 16, 0, 64, 192, 511, 1023]
theorem spec_copyImage.tab1 : rtab .any (opsOf Try.f113 1) = spec_copyImage.T1 := by kernel_rfl
theorem spec_copyImage.bits1 : waitsOk spec_copyImage.T1.2 spec_copyImage.B1 = true := by kernel_rfl
set_option maxHeartbeats 8000000 in
set_option maxRecDepth 100000 in
theorem spec_copyImage.calls (a0_0 : Int) (a0_1 : Int) (a0_2 : Int) (A0_3 : Option Addr) (c0_3 : Nat) (l0_3 : List Int) (r1 : Int) (r2 : Int) (r3 : Int) (r4 : List Int) (w : World) (hr0_3 : Kd.C (Kd.int .i64) w A0_3 l0_3.length l0_3) (hc0_3 : l0_3.length ≤ c0_3) (h : spec_copyImage.f a0_0 a0_1 a0_2 l0_3 = some (r1, r2, r3, r4)) :
  Calls Try.prog 113 #[.agg #[.int .i64 a0_0, .int .i64 a0_1, .int .i64 a0_2, .slice A0_3 l0_3.length c0_3]] w fun e w' => ∃ v3_ : Value, e = .returned (.agg #[.int .i64 r1, .int .i64 r2, .int .i64 r3, v3_]) ∧ Kd.R (Kd.int .i64) 3 w' w.heap.size (fun _ => True) v3_ r4 ∧ Below w.heap.size w w' := by
 have hu27 := Try.underlying27
 have HR0_3 := mk hr0_3
 have HC0_3 := mk hc0_3
 clear hr0_3 hc0_3
 have HB := mk (Below.refl w.heap.size w)
 have H : ((spec_copyInts.f l0_3).bind fun t114003 => (some (a0_0, a0_1, a0_2, t114003))) = some (r1, r2, r3, r4) := h
 clear h
 replace H := Option.bind_eq_some_iff.mp H
 obtain ⟨t114003, A20, H⟩ := H
 replace H : (some (a0_0, a0_1, a0_2, t114003)) = some (r1, r2, r3, r4) := H
 have A2 := mk A20
 clear A20
 simp only [Option.some.injEq, Prod.mk.injEq] at H
 obtain ⟨rfl, rfl, rfl, rfl⟩ := H
 go_enter Try.func113, Try.ntmps113
 try go_wp2_with (first | ((with_reducible refine gate_dst (N := 1) rfl ?_); refine box_event ?hg (N := 1) ?hd (cs := #[.int .i64 a0_0, .int .i64 a0_1, .int .i64 a0_2, .slice A0_3 l0_3.length c0_3]) (t := 27) ?hr ?_; (case hd => rfl); (case hg => rfl); (case hr => first | (go_simp; done) | (go_simp; rfl)); intro gb114001 hg w3 hbox hb; have n0_ := mk (below_step (by repeat (first | (with_reducible first | exact HB.out | apply below_alloc | apply pw_below_drewN | apply below_drew1) | exact HB.out)) hb); have n1_ := mk (hbox); have n2_ := mk ((by rw [hg]; exact (below_size (by repeat (first | (with_reducible first | exact HB.out | apply below_alloc | apply pw_below_drewN | apply below_drew1) | exact HB.out))) : w.heap.size ≤ gb114001)); have n3_ := mk ((by rw [hg]; exact (below_size (by repeat (first | (with_reducible first | exact HB.out | apply below_alloc | apply pw_below_drewN | apply below_drew1) | exact HB.out))) : w.heap.size ≤ gb114001)); clear HB; have HB := n0_; have BK114001 := n1_; have GW114001 := n2_; have GE114001 := n3_; clear n0_ n1_ n2_ n3_; clear hb hbox hg) | ((with_reducible refine gate_dst (N := 2) rfl ?_); refine box_event ?hg (N := 2) ?hd (cs := #[.int .i64 0, .int .i64 0, .int .i64 0, .slice none 0 0]) (t := 27) ?hr ?_; (case hd => rfl); (case hg => rfl); (case hr => first | (go_simp; done) | (go_simp; rfl)); intro gb114002 hg w4 hbox hb; have n0_ := mk (blk_below (g := gb114001) (o := .cells #[.int .i64 a0_0, .int .i64 a0_1, .int .i64 a0_2, .slice A0_3 l0_3.length c0_3] 27 (0, 0)) (by (with_reducible repeat (first | refine blk_drewN ?_ _ | refine blk_drew ?_ | refine blk_alloc ?_ _)); exact BK114001.out) hb); have n1_ := mk (below_step (by repeat (first | (with_reducible first | exact HB.out | apply below_alloc | apply pw_below_drewN | apply below_drew1 | refine below_set ?_ GE114001.out) | exact HB.out)) hb); have n2_ := mk (hbox); have n3_ := mk ((by rw [hg]; exact (below_size (by repeat (first | (with_reducible first | exact HB.out | apply below_alloc | apply pw_below_drewN | apply below_drew1 | refine below_set ?_ GE114001.out) | exact HB.out))) : w.heap.size ≤ gb114002)); have n4_ := mk ((by rw [hg]; exact (below_size (by repeat (first | (with_reducible first | exact HB.out | apply below_alloc | apply pw_below_drewN | apply below_drew1 | refine below_set ?_ GE114001.out) | exact HB.out))) : w.heap.size ≤ gb114002)); have n5_ := mk ((by rw [hg]; exact Nat.ne_of_lt (blk_lt (g := gb114001) (o := .cells #[.int .i64 a0_0, .int .i64 a0_1, .int .i64 a0_2, .slice A0_3 l0_3.length c0_3] 27 (0, 0)) (by (with_reducible repeat (first | refine blk_drewN ?_ _ | refine blk_drew ?_ | refine blk_alloc ?_ _)); exact BK114001.out)) : gb114001 ≠ gb114002)); have n6_ := mk ((by rw [hg]; exact Nat.ne_of_gt (blk_lt (g := gb114001) (o := .cells #[.int .i64 a0_0, .int .i64 a0_1, .int .i64 a0_2, .slice A0_3 l0_3.length c0_3] 27 (0, 0)) (by (with_reducible repeat (first | refine blk_drewN ?_ _ | refine blk_drew ?_ | refine blk_alloc ?_ _)); exact BK114001.out)) : gb114002 ≠ gb114001)); clear BK114001; clear HB; have BK114001 := n0_; have HB := n1_; have BK114002 := n2_; have GW114002 := n3_; have GE114002 := n4_; have NB114001_114002 := n5_; have NB114002_114001 := n6_; clear n0_ n1_ n2_ n3_ n4_ n5_ n6_; clear hb hbox hg))
 have n0_ := mk (blk_drew BK114001.out)
 have n1_ := mk (blk_drew BK114002.out)
 have n2_ := mk (below_drew1 HB.out)
 clear BK114001
 clear BK114002
 clear HB
 have BK114001 := n0_
 have BK114002 := n1_
 have HB := n2_
 clear n0_ n1_ n2_
 refine start_ (n := 11) (S := fun w' => w'.cell? ⟨gb114001, 0, none⟩ = some (.int .i64 a0_0) ∧ w'.cell? ⟨gb114001, 1, none⟩ = some (.int .i64 a0_1) ∧ w'.cell? ⟨gb114001, 2, none⟩ = some (.int .i64 a0_2) ∧ w'.cell? ⟨gb114001, 3, none⟩ = some (.slice A0_3 l0_3.length c0_3)) (ds := []) #[false, false, false, false, false, false, false, false, false, false, false] (by kernel_rfl) rfl rfl ⟨(blk_cell BK114001.out 0).trans rfl, (blk_cell BK114001.out 1).trans rfl, (blk_cell BK114001.out 2).trans rfl, (blk_cell BK114001.out 3).trans rfl⟩ (fun hHeld => ?_); refine with_tabW spec_copyImage.tab1 spec_copyImage.bits1 (fun HT_ HW_ => ?_)
 generalize w4.drew = w5 at BK114001 BK114002 HB hHeld ⊢
 refine pure_ (i := 0) (N := some 3) (v := ?_) (a' := ?_) #[true, false, false, false, false, false, false, false, false, false, false] rfl rfl (any_of HT_.out (by kernel_rfl)) (fun _ _ _ h => h) (Or.inl ⟨by rfl, ?_⟩) ?_ ?_
 rotate_left
 ·intro w'
  go_simp
  with_reducible rfl
 rotate_left
 ·simp only [Act.put, List.setIfInBounds_toArray, List.set_cons_zero, List.set_cons_succ, i64_w, i32_w]
  rfl
 refine pure_ (i := 2) (N := some 5) (v := ?_) (a' := ?_) #[true, false, true, false, false, false, false, false, false, false, false] rfl rfl (any_of HT_.out (by kernel_rfl)) (fun _ _ _ h => h) (Or.inl ⟨by rfl, ?_⟩) ?_ ?_
 rotate_left
 ·intro w'
  go_simp
  with_reducible rfl
 rotate_left
 ·simp only [Act.put, List.setIfInBounds_toArray, List.set_cons_zero, List.set_cons_succ, i64_w, i32_w]
  rfl
 refine pure_ (i := 4) (N := some 7) (v := ?_) (a' := ?_) #[true, false, true, false, true, false, false, false, false, false, false] rfl rfl (any_of HT_.out (by kernel_rfl)) (fun _ _ _ h => h) (Or.inl ⟨by rfl, ?_⟩) ?_ ?_
 rotate_left
 ·intro w'
  go_simp
  with_reducible rfl
 rotate_left
 ·simp only [Act.put, List.setIfInBounds_toArray, List.set_cons_zero, List.set_cons_succ, i64_w, i32_w]
  rfl
 refine pure_ (i := 6) (N := some 9) (v := ?_) (a' := ?_) #[true, false, true, false, true, false, true, false, false, false, false] rfl rfl (any_of HT_.out (by kernel_rfl)) (fun _ _ _ h => h) (Or.inl ⟨by rfl, ?_⟩) ?_ ?_
 rotate_left
 ·intro w'
  go_simp
  with_reducible rfl
 rotate_left
 ·simp only [Act.put, List.setIfInBounds_toArray, List.set_cons_zero, List.set_cons_succ, i64_w, i32_w]
  rfl
 refine take_ (i := 1) (N := some 4) (v := ?_) (a' := ?_) #[true, true, true, false, true, false, true, false, false, false, false] rfl rfl (take_ofW HT_.out HW_.out (by kernel_rfl)) (fun _ _ _ h => h) (Or.inl ⟨by rfl, ?_⟩) hHeld ?_ ?_
 rotate_left
 ·rintro w' ⟨s0, s1, s2, s3⟩
  go_simp
  with_reducible rfl
 rotate_left
 ·simp only [Act.put, List.setIfInBounds_toArray, List.set_cons_zero, List.set_cons_succ, i64_w, i32_w]
  rfl
 refine take_ (i := 3) (N := some 6) (v := ?_) (a' := ?_) #[true, true, true, true, true, false, true, false, false, false, false] rfl rfl (take_ofW HT_.out HW_.out (by kernel_rfl)) (fun _ _ _ h => h) (Or.inl ⟨by rfl, ?_⟩) hHeld ?_ ?_
 rotate_left
 ·rintro w' ⟨s0, s1, s2, s3⟩
  go_simp
  with_reducible rfl
 rotate_left
 ·simp only [Act.put, List.setIfInBounds_toArray, List.set_cons_zero, List.set_cons_succ, i64_w, i32_w]
  rfl
 refine take_ (i := 5) (N := some 8) (v := ?_) (a' := ?_) #[true, true, true, true, true, true, true, false, false, false, false] rfl rfl (take_ofW HT_.out HW_.out (by kernel_rfl)) (fun _ _ _ h => h) (Or.inl ⟨by rfl, ?_⟩) hHeld ?_ ?_
 rotate_left
 ·rintro w' ⟨s0, s1, s2, s3⟩
  go_simp
  with_reducible rfl
 rotate_left
 ·simp only [Act.put, List.setIfInBounds_toArray, List.set_cons_zero, List.set_cons_succ, i64_w, i32_w]
  rfl
 refine take_ (i := 7) (N := some 10) (v := ?_) (a' := ?_) #[true, true, true, true, true, true, true, true, false, false, false] rfl rfl (take_ofW HT_.out HW_.out (by kernel_rfl)) (fun _ _ _ h => h) (Or.inl ⟨by rfl, ?_⟩) hHeld ?_ ?_
 rotate_left
 ·rintro w' ⟨s0, s1, s2, s3⟩
  go_simp
  with_reducible rfl
 rotate_left
 ·simp only [Act.put, List.setIfInBounds_toArray, List.set_cons_zero, List.set_cons_succ, i64_w, i32_w]
  rfl
 refine one_ (i := 8) (N := some 11) #[true, true, true, true, true, true, true, true, true, false, false] rfl rfl (one_of HT_.out (by kernel_rfl)) (by decide) (fun K hK => ?_)
 refine goes_ Try.func129 (by kernel_rfl) rfl #[.slice A0_3 l0_3.length c0_3] (by rfl) rfl rfl (by (try simp only [List.map_toArray, List.map_cons, List.map_nil]); first | done | rfl | (simp only [List.length_drop, List.length_take]; rfl)) ?_
 with_reducible refine (spec_copyInts.calls _ _ l0_3 t114003 _ ?side1 ?side2 A2.out).mono ?_
 (case side1 => repeat (first | exact (Kd.C_below HR0_3.out HB.out) | (with_reducible refine Kd.C_alloc ?_ _) | (with_reducible refine Kd.C_drewN ?_ _) | (with_reducible refine Kd.C_drew ?_)))
 (case side2 => exact HC0_3.out)
 rintro e w6 ⟨v114004, rfl, ho0, hb⟩
 refine ⟨_, rfl, ?_⟩
 have n0_ := mk (Kd.R_lower ho0 (below_size (by repeat (first | (with_reducible first | exact HB.out | apply below_alloc | apply pw_below_drewN | apply below_drew1 | refine below_set ?_ GE114001.out | refine below_set ?_ GE114002.out) | exact HB.out))))
 have n1_ := mk (blk_below (g := gb114001) (o := .cells #[.int .i64 a0_0, .int .i64 a0_1, .int .i64 a0_2, .slice A0_3 l0_3.length c0_3] 27 (0, 0)) (by (with_reducible repeat (first | refine blk_drewN ?_ _ | refine blk_drew ?_ | refine blk_alloc ?_ _)); exact BK114001.out) hb)
 have n2_ := mk (blk_below (g := gb114002) (o := .cells #[.int .i64 0, .int .i64 0, .int .i64 0, .slice none 0 0] 27 (0, 0)) (by (with_reducible repeat (first | refine blk_drewN ?_ _ | refine blk_drew ?_ | refine blk_alloc ?_ _)); exact BK114002.out) hb)
 have n3_ := mk (below_step (by repeat (first | (with_reducible first | exact HB.out | apply below_alloc | apply pw_below_drewN | apply below_drew1 | refine below_set ?_ GE114001.out | refine below_set ?_ GE114002.out) | exact HB.out)) hb)
 clear BK114001
 clear BK114002
 clear HB
 have HO114005 := n0_
 have BK114001 := n1_
 have BK114002 := n2_
 have HB := n3_
 clear n0_ n1_ n2_ n3_
 (try clear hb)
 (try clear hb2)
 (try clear hk)
 (try clear hi)
 (try clear ho0)
 obtain ⟨Ao7, co7, eo7⟩ := Kd.R_slice HO114005.out
 (first | subst eo7 | (injection eo7 with f1_ f2_ f3_; have f4_ := f1_.symm; have f5_ := f3_.symm; clear f1_ f2_ f3_; subst f4_; subst f5_))
 refine hK.out _ _ ⟨(blk_cell BK114001.out 0).trans rfl, (blk_cell BK114001.out 1).trans rfl, (blk_cell BK114001.out 2).trans rfl, (blk_cell BK114001.out 3).trans rfl⟩ (fun hHeld => ?_)
 clear hK K
 refine norm_ (a' := ?_) ?_ ?_
 rotate_left
 ·show Act.put _ (some 11) _ = _
  simp only [Act.put, List.setIfInBounds_toArray, List.set_cons_zero, List.set_cons_succ, i64_w, i32_w]
  rfl
 refine pure_ (i := 9) (N := some 12) (v := ?_) (a' := ?_) #[true, true, true, true, true, true, true, true, true, true, false] rfl rfl (any_of HT_.out (by kernel_rfl)) (fun _ _ _ h => h) (Or.inl ⟨by rfl, ?_⟩) ?_ ?_
 rotate_left
 ·intro w'
  go_simp
  with_reducible rfl
 rotate_left
 ·simp only [Act.put, List.setIfInBounds_toArray, List.set_cons_zero, List.set_cons_succ, i64_w, i32_w]
  rfl
 refine one_ (i := 10) (N := none) #[true, true, true, true, true, true, true, true, true, true, true] rfl rfl (one_of HT_.out (by kernel_rfl)) (by decide) (fun K hK => ?_)
 have hs8 : w6.cell? ⟨gb114002, 0, none⟩ = some (.int .i64 0) := (blk_cell BK114002.out 0).trans rfl
 have hfs8 := blk_frozen BK114002.out 0
 have hns8_0 := NB114001_114002.out
 have hms8_0 := NB114002_114001.out
 have hs9 : w6.cell? ⟨gb114002, 1, none⟩ = some (.int .i64 0) := (blk_cell BK114002.out 1).trans rfl
 have hfs9 := blk_frozen BK114002.out 1
 have hns9_0 := NB114001_114002.out
 have hms9_0 := NB114002_114001.out
 have hs10 : w6.cell? ⟨gb114002, 2, none⟩ = some (.int .i64 0) := (blk_cell BK114002.out 2).trans rfl
 have hfs10 := blk_frozen BK114002.out 2
 have hns10_0 := NB114001_114002.out
 have hms10_0 := NB114002_114001.out
 have hs11 : w6.cell? ⟨gb114002, 3, none⟩ = some (.slice none 0 0) := (blk_cell BK114002.out 3).trans rfl
 have hfs11 := blk_frozen BK114002.out 3
 have hns11_0 := NB114001_114002.out
 have hms11_0 := NB114002_114001.out
 refine skip_ (w1 := ?_) (by rfl) rfl ?_ ?_
 rotate_left
 ·go_simp
  rfl
 refine hK.out _ _ ⟨((cell_far (p := ⟨gb114002, _, none⟩) NB114001_114002.out _).trans (((cell_far (p := ⟨gb114002, _, none⟩) NB114001_114002.out _).trans (((cell_far (p := ⟨gb114002, _, none⟩) NB114001_114002.out _).trans (((cell_far (p := ⟨gb114002, _, none⟩) NB114001_114002.out _).trans (hHeld.1)))))))), ((cell_far (p := ⟨gb114002, _, none⟩) NB114001_114002.out _).trans (((cell_far (p := ⟨gb114002, _, none⟩) NB114001_114002.out _).trans (((cell_far (p := ⟨gb114002, _, none⟩) NB114001_114002.out _).trans (((cell_far (p := ⟨gb114002, _, none⟩) NB114001_114002.out _).trans (hHeld.2.1)))))))), ((cell_far (p := ⟨gb114002, _, none⟩) NB114001_114002.out _).trans (((cell_far (p := ⟨gb114002, _, none⟩) NB114001_114002.out _).trans (((cell_far (p := ⟨gb114002, _, none⟩) NB114001_114002.out _).trans (((cell_far (p := ⟨gb114002, _, none⟩) NB114001_114002.out _).trans (hHeld.2.2.1)))))))), ((cell_far (p := ⟨gb114002, _, none⟩) NB114001_114002.out _).trans (((cell_far (p := ⟨gb114002, _, none⟩) NB114001_114002.out _).trans (((cell_far (p := ⟨gb114002, _, none⟩) NB114001_114002.out _).trans (((cell_far (p := ⟨gb114002, _, none⟩) NB114001_114002.out _).trans (hHeld.2.2.2))))))))⟩ (fun hHeld => ?_)
 clear hK K
 refine done_ (done_of HT_.out (by kernel_rfl)) ?_
 try go_wp2
 refine bodyPost_ret (results_cell_row rfl _ _ gb114002 27 #[.int .i64 a0_0, .int .i64 a0_1, .int .i64 a0_2, .slice Ao7 t114003.length co7] (0, 0) _ rfl (by (with_reducible repeat (first | refine blk_drewN ?_ _ | refine blk_drew ?_ | refine blk_alloc ?_ _)); refine blk_put (cs := #[.int .i64 a0_0, .int .i64 a0_1, .int .i64 a0_2, .slice none 0 0]) ?_ 3 _ rfl; (with_reducible repeat (first | refine blk_drewN ?_ _ | refine blk_drew ?_ | refine blk_alloc ?_ _)); refine blk_put (cs := #[.int .i64 a0_0, .int .i64 a0_1, .int .i64 0, .slice none 0 0]) ?_ 2 _ rfl; (with_reducible repeat (first | refine blk_drewN ?_ _ | refine blk_drew ?_ | refine blk_alloc ?_ _)); refine blk_put (cs := #[.int .i64 a0_0, .int .i64 0, .int .i64 0, .slice none 0 0]) ?_ 1 _ rfl; (with_reducible repeat (first | refine blk_drewN ?_ _ | refine blk_drew ?_ | refine blk_alloc ?_ _)); refine blk_put (cs := #[.int .i64 0, .int .i64 0, .int .i64 0, .slice none 0 0]) ?_ 0 _ rfl; (with_reducible repeat (first | refine blk_drewN ?_ _ | refine blk_drew ?_ | refine blk_alloc ?_ _)); exact BK114002.out) Try.underlying27 rfl (by kernel_rfl)) rfl ?_
 exact ⟨_, by first | rfl | (simp [errW_none, errW_some] <;> rfl) | (simp [*, errW_none, errW_some] <;> rfl), by (with_reducible repeat (first | apply Kd.R_alloc | apply Kd.R_drewN | apply Kd.R_drew)); exact Kd.R_mono (Kd.R_far (p := ⟨gb114002, 3, none⟩) (Kd.R_far (p := ⟨gb114002, 2, none⟩) (Kd.R_far (p := ⟨gb114002, 1, none⟩) (Kd.R_far (p := ⟨gb114002, 0, none⟩) (Kd.R_types HO114005.out BK114002.out (by decide)) (fun _ hk => hk.2) (.int .i64 a0_0)) (fun _ hk => hk.2) (.int .i64 a0_1)) (fun _ hk => hk.2) (.int .i64 a0_2)) (fun _ hk => hk.2) (.slice Ao7 t114003.length co7)) (fun _ hk => trivial), by repeat (first | (with_reducible first | exact HB.out | apply below_alloc | apply pw_below_drewN | apply below_drew1 | refine below_set ?_ GE114001.out | refine below_set ?_ GE114002.out) | exact HB.out)⟩


def spec_onImage.f (a0_0 : Int) (a0_1 : Int) (a0_2 : Int) (l0_3 : List Int) (a1 : Int) (a2 : Int) : Option (Bool) := (spec_inRange.f a1 0 (wrap64 (a0_0 - 1))).bind fun t145002 => (if t145002 = true then ((spec_inRange.f a2 0 (wrap64 (a0_1 - 1))).bind fun t145003 => (some t145003)) else (some false))
set_option maxHeartbeats 8000000 in
set_option maxRecDepth 100000 in
theorem spec_onImage.calls (a0_0 : Int) (a0_1 : Int) (a0_2 : Int) (A0_3 : Option Addr) (c0_3 : Nat) (l0_3 : List Int) (a1 : Int) (a2 : Int) (r : Bool) (w : World) (hr0_3 : Kd.C (Kd.int .i64) w A0_3 l0_3.length l0_3) (hc0_3 : l0_3.length ≤ c0_3) (h : spec_onImage.f a0_0 a0_1 a0_2 l0_3 a1 a2 = some r) :
  Calls Try.prog 144 #[.agg #[.int .i64 a0_0, .int .i64 a0_1, .int .i64 a0_2, .slice A0_3 l0_3.length c0_3], .int .i64 a1, .int .i64 a2] w fun e w' => e = .returned (.bool r) ∧ Below w.heap.size w w' := by
 have hu27 := Try.underlying27
 have HR0_3 := mk hr0_3
 have HC0_3 := mk hc0_3
 clear hr0_3 hc0_3
 have HB := mk (Below.refl w.heap.size w)
 have H : ((spec_inRange.f a1 0 (wrap64 (a0_0 - 1))).bind fun t145002 => (if t145002 = true then ((spec_inRange.f a2 0 (wrap64 (a0_1 - 1))).bind fun t145003 => (some t145003)) else (some false))) = some r := h
 clear h
 replace H := Option.bind_eq_some_iff.mp H
 obtain ⟨t145002, A40, H⟩ := H
 replace H : (if t145002 = true then ((spec_inRange.f a2 0 (wrap64 (a0_1 - 1))).bind fun t145003 => (some t145003)) else (some false)) = some r := H
 have A4 := mk A40
 clear A40
 by_cases c5 : t145002 = true
 ·subst c5
  have H1 : ((spec_inRange.f a2 0 (wrap64 (a0_1 - 1))).bind fun t145003 => (some t145003)) = some r := by rw [if_pos rfl] at H; exact H
  clear H
  have H := H1
  clear H1
  replace H := Option.bind_eq_some_iff.mp H
  obtain ⟨t145003, A60, H⟩ := H
  replace H : (some t145003) = some r := H
  have A6 := mk A60
  clear A60
  obtain rfl := Option.some.inj H
  go_enter Try.func144, Try.ntmps144
  go_wp2_with (first | ((with_reducible refine gate_dst (N := 3) rfl ?_); refine box_event ?hg (N := 3) ?hd (cs := #[.int .i64 a0_0, .int .i64 a0_1, .int .i64 a0_2, .slice A0_3 l0_3.length c0_3]) (t := 27) ?hr ?_; (case hd => rfl); (case hg => rfl); (case hr => first | (go_simp; done) | (go_simp; rfl)); intro gb145001 hg w7 hbox hb; have n0_ := mk (below_step (by repeat (first | (with_reducible first | exact HB.out | apply below_alloc | apply pw_below_drewN | apply below_drew1) | exact HB.out)) hb); have n1_ := mk (hbox); have n2_ := mk ((by rw [hg]; exact (below_size (by repeat (first | (with_reducible first | exact HB.out | apply below_alloc | apply pw_below_drewN | apply below_drew1) | exact HB.out))) : w.heap.size ≤ gb145001)); have n3_ := mk ((by rw [hg]; exact (below_size (by repeat (first | (with_reducible first | exact HB.out | apply below_alloc | apply pw_below_drewN | apply below_drew1) | exact HB.out))) : w.heap.size ≤ gb145001)); clear HB; have HB := n0_; have BK145001 := n1_; have GW145001 := n2_; have GE145001 := n3_; clear n0_ n1_ n2_ n3_; clear hb hbox hg; have hcz8_0 : w7.cell? ⟨gb145001, 0, none⟩ = some (.int .i64 a0_0) := (blk_cell BK145001.out 0).trans rfl; have hcz8_1 : w7.cell? ⟨gb145001, 1, none⟩ = some (.int .i64 a0_1) := (blk_cell BK145001.out 1).trans rfl; have hcz8_2 : w7.cell? ⟨gb145001, 2, none⟩ = some (.int .i64 a0_2) := (blk_cell BK145001.out 2).trans rfl; have hcz8_3 : w7.cell? ⟨gb145001, 3, none⟩ = some (.slice A0_3 l0_3.length c0_3) := (blk_cell BK145001.out 3).trans rfl; have hfz8_0 := blk_frozen BK145001.out 0; have hfz8_1 := blk_frozen BK145001.out 1; have hfz8_2 := blk_frozen BK145001.out 2; have hfz8_3 := blk_frozen BK145001.out 3) | ((with_reducible refine gate_callee (f := 110) rfl ?_); refine goesL_ (some 11) rfl rfl Try.func110 (by kernel_rfl) rfl #[.int .i64 a1, .int .i64 0, .int .i64 (wrap64 (a0_0 - 1))] rfl (by (try simp only [List.map_toArray, List.map_cons, List.map_nil]); first | done | rfl | (simp only [List.length_drop, List.length_take]; rfl)) ?_; (with_reducible refine (spec_inRange.calls a1 0 (wrap64 (a0_0 - 1)) true _ A4.out).mono ?_); rintro e w' ⟨rfl, ⟨nd, rfl⟩⟩; refine ⟨_, rfl, ?_⟩) | (go_at_call 110; (with_reducible refine (spec_inRange.calls a2 0 (wrap64 (a0_1 - 1)) t145003 _ A6.out).mono ?_); rintro e w' ⟨rfl, ⟨nd, rfl⟩⟩))
  go_ret
  exact ⟨by first | rfl | (simp [errW_none, errW_some] <;> rfl) | (simp [*, errW_none, errW_some] <;> rfl), by repeat (first | (with_reducible first | exact HB.out | apply below_alloc | apply pw_below_drewN | apply below_drew1 | refine below_set ?_ GE145001.out) | exact HB.out)⟩
 ·replace c5 := Bool.eq_false_iff.mpr c5
  subst c5
  have H1 : (some false) = some r := by rw [if_neg (show ¬ (false = true) by decide)] at H; exact H
  clear H
  have H := H1
  clear H1
  obtain rfl := Option.some.inj H
  go_enter Try.func144, Try.ntmps144
  go_wp2_with (first | ((with_reducible refine gate_dst (N := 3) rfl ?_); refine box_event ?hg (N := 3) ?hd (cs := #[.int .i64 a0_0, .int .i64 a0_1, .int .i64 a0_2, .slice A0_3 l0_3.length c0_3]) (t := 27) ?hr ?_; (case hd => rfl); (case hg => rfl); (case hr => first | (go_simp; done) | (go_simp; rfl)); intro gb145001 hg w9 hbox hb; have n0_ := mk (below_step (by repeat (first | (with_reducible first | exact HB.out | apply below_alloc | apply pw_below_drewN | apply below_drew1) | exact HB.out)) hb); have n1_ := mk (hbox); have n2_ := mk ((by rw [hg]; exact (below_size (by repeat (first | (with_reducible first | exact HB.out | apply below_alloc | apply pw_below_drewN | apply below_drew1) | exact HB.out))) : w.heap.size ≤ gb145001)); have n3_ := mk ((by rw [hg]; exact (below_size (by repeat (first | (with_reducible first | exact HB.out | apply below_alloc | apply pw_below_drewN | apply below_drew1) | exact HB.out))) : w.heap.size ≤ gb145001)); clear HB; have HB := n0_; have BK145001 := n1_; have GW145001 := n2_; have GE145001 := n3_; clear n0_ n1_ n2_ n3_; clear hb hbox hg; have hcz10_0 : w9.cell? ⟨gb145001, 0, none⟩ = some (.int .i64 a0_0) := (blk_cell BK145001.out 0).trans rfl; have hcz10_1 : w9.cell? ⟨gb145001, 1, none⟩ = some (.int .i64 a0_1) := (blk_cell BK145001.out 1).trans rfl; have hcz10_2 : w9.cell? ⟨gb145001, 2, none⟩ = some (.int .i64 a0_2) := (blk_cell BK145001.out 2).trans rfl; have hcz10_3 : w9.cell? ⟨gb145001, 3, none⟩ = some (.slice A0_3 l0_3.length c0_3) := (blk_cell BK145001.out 3).trans rfl; have hfz10_0 := blk_frozen BK145001.out 0; have hfz10_1 := blk_frozen BK145001.out 1; have hfz10_2 := blk_frozen BK145001.out 2; have hfz10_3 := blk_frozen BK145001.out 3) | ((with_reducible refine gate_callee (f := 110) rfl ?_); refine goesL_ (some 11) rfl rfl Try.func110 (by kernel_rfl) rfl #[.int .i64 a1, .int .i64 0, .int .i64 (wrap64 (a0_0 - 1))] rfl (by (try simp only [List.map_toArray, List.map_cons, List.map_nil]); first | done | rfl | (simp only [List.length_drop, List.length_take]; rfl)) ?_; (with_reducible refine (spec_inRange.calls a1 0 (wrap64 (a0_0 - 1)) false _ A4.out).mono ?_); rintro e w' ⟨rfl, ⟨nd, rfl⟩⟩; refine ⟨_, rfl, ?_⟩))
  go_ret
  exact ⟨by first | rfl | (simp [errW_none, errW_some] <;> rfl) | (simp [*, errW_none, errW_some] <;> rfl), by repeat (first | (with_reducible first | exact HB.out | apply below_alloc | apply pw_below_drewN | apply below_drew1 | refine below_set ?_ GE145001.out) | exact HB.out)⟩

end Go.Proofs.Ytnofkbbcbpjhfaa.Q

namespace Go.Proofs.Ytnofkbbcbpjhfaa.Q
open Go.RowKit Go.Proofs.YtnofkbbcbpjhfaaW.PrintWords Go.Proofs.YtnofkbbcbpjhfaaW.PrintLast Go.Proofs.YtnofkbbcbpjhfaaW.PrintMore
attribute [local go_sem] max2_int min2_int max_two min_two max_three min_three max_four min_four
set_option linter.unusedVariables false
set_option linter.unusedSimpArgs false
def spec_mix.f (a0 : Int) (a1 : Int) (a2 : Int) : Option (Int) := if a0 = 1 then (some (wrap64 (Int.tdiv (wrap64 ((wrap64 ((wrap64 (2 * a1)) * a2)) + 255)) 510))) else (if a0 = 2 then (some (wrap64 (255 - (wrap64 (Int.tdiv (wrap64 ((wrap64 ((wrap64 (2 * (wrap64 (255 - a1)))) * (wrap64 (255 - a2)))) + 255)) 510))))) else (if a0 = 3 then (some (mn a1 a2)) else (if a0 = 4 then (some (mx a1 a2)) else (some a2))))
set_option maxHeartbeats 8000000 in
set_option maxRecDepth 100000 in
theorem spec_mix.calls (a0 : Int) (a1 : Int) (a2 : Int) (r : Int) (w : World) (h : spec_mix.f a0 a1 a2 = some r) :
  Calls Try.prog 157 #[.int .i64 a0, .int .i64 a1, .int .i64 a2] w fun e w' => e = .returned (.int .i64 r) ∧ Below w.heap.size w w' := by
 have HB := Aside0.mk (Below.refl w.heap.size w)
 have H : (if a0 = 1 then (some (wrap64 (Int.tdiv (wrap64 ((wrap64 ((wrap64 (2 * a1)) * a2)) + 255)) 510))) else (if a0 = 2 then (some (wrap64 (255 - (wrap64 (Int.tdiv (wrap64 ((wrap64 ((wrap64 (2 * (wrap64 (255 - a1)))) * (wrap64 (255 - a2)))) + 255)) 510))))) else (if a0 = 3 then (some (mn a1 a2)) else (if a0 = 4 then (some (mx a1 a2)) else (some a2))))) = some r := h
 clear h
 by_cases c4 : a0 = 1
 ·rw [if_pos c4] at H
  have c4b0 : (a0 == 1) = true := beq_iff_eq.mpr c4
  have c4b1 : (a0 != 1) = false := bne_eq_false_iff_eq.mpr c4
  clear c4
  obtain rfl := Option.some.inj H
  go_enter Try.func157, Try.ntmps157
  go_wp2
  go_ret
  exact ⟨by first | rfl | (simp [errW_none, errW_some] <;> rfl) | (simp [*, errW_none, errW_some] <;> rfl), by repeat (first | (with_reducible first | exact HB.out | apply below_alloc | apply pw_below_drewN | apply below_drew1) | exact HB.out)⟩
 ·rw [if_neg c4] at H
  have c4b0 : (a0 == 1) = false := beq_eq_false_iff_ne.mpr c4
  have c4b1 : (a0 != 1) = true := bne_iff_ne.mpr c4
  by_cases c5 : a0 = 2
  ·rw [if_pos c5] at H
   have c5b0 : (a0 == 2) = true := beq_iff_eq.mpr c5
   have c5b1 : (a0 != 2) = false := bne_eq_false_iff_eq.mpr c5
   clear c5
   obtain rfl := Option.some.inj H
   go_enter Try.func157, Try.ntmps157
   go_wp2
   go_ret
   exact ⟨by first | rfl | (simp [errW_none, errW_some] <;> rfl) | (simp [*, errW_none, errW_some] <;> rfl), by repeat (first | (with_reducible first | exact HB.out | apply below_alloc | apply pw_below_drewN | apply below_drew1) | exact HB.out)⟩
  ·rw [if_neg c5] at H
   have c5b0 : (a0 == 2) = false := beq_eq_false_iff_ne.mpr c5
   have c5b1 : (a0 != 2) = true := bne_iff_ne.mpr c5
   by_cases c6 : a0 = 3
   ·rw [if_pos c6] at H
    have c6b0 : (a0 == 3) = true := beq_iff_eq.mpr c6
    have c6b1 : (a0 != 3) = false := bne_eq_false_iff_eq.mpr c6
    clear c6
    obtain ⟨ji7, hji7⟩ : ∃ j_ : Int, (mn a1 a2) = j_ := ⟨_, rfl⟩
    replace H : (some ji7) = some r := by first | (rw [hji7] at H; exact H) | (simp only [hji7] at H ⊢; exact H)
    have hji7_ : (if a2 < a1 then a2 else a1) = ji7 := hji7
    obtain rfl := Option.some.inj H
    go_enter Try.func157, Try.ntmps157
    go_wp2
    go_ret
    exact ⟨by first | rfl | (simp [errW_none, errW_some] <;> rfl) | (simp only [← hji7]; first | rfl | (simp [errW_none, errW_some] <;> rfl)) | (simp [*, errW_none, errW_some] <;> rfl), by repeat (first | (with_reducible first | exact HB.out | apply below_alloc | apply pw_below_drewN | apply below_drew1) | exact HB.out)⟩
   ·rw [if_neg c6] at H
    have c6b0 : (a0 == 3) = false := beq_eq_false_iff_ne.mpr c6
    have c6b1 : (a0 != 3) = true := bne_iff_ne.mpr c6
    by_cases c8 : a0 = 4
    ·rw [if_pos c8] at H
     have c8b0 : (a0 == 4) = true := beq_iff_eq.mpr c8
     have c8b1 : (a0 != 4) = false := bne_eq_false_iff_eq.mpr c8
     clear c8
     obtain ⟨ji9, hji9⟩ : ∃ j_ : Int, (mx a1 a2) = j_ := ⟨_, rfl⟩
     replace H : (some ji9) = some r := by first | (rw [hji9] at H; exact H) | (simp only [hji9] at H ⊢; exact H)
     have hji9_ : (if a1 < a2 then a2 else a1) = ji9 := hji9
     obtain rfl := Option.some.inj H
     go_enter Try.func157, Try.ntmps157
     go_wp2
     go_ret
     exact ⟨by first | rfl | (simp [errW_none, errW_some] <;> rfl) | (simp only [← hji9]; first | rfl | (simp [errW_none, errW_some] <;> rfl)) | (simp [*, errW_none, errW_some] <;> rfl), by repeat (first | (with_reducible first | exact HB.out | apply below_alloc | apply pw_below_drewN | apply below_drew1) | exact HB.out)⟩
    ·rw [if_neg c8] at H
     have c8b0 : (a0 == 4) = false := beq_eq_false_iff_ne.mpr c8
     have c8b1 : (a0 != 4) = true := bne_iff_ne.mpr c8
     obtain rfl := Option.some.inj H
     go_enter Try.func157, Try.ntmps157
     go_wp2
     go_ret
     exact ⟨by first | rfl | (simp [errW_none, errW_some] <;> rfl) | (simp [*, errW_none, errW_some] <;> rfl), by repeat (first | (with_reducible first | exact HB.out | apply below_alloc | apply pw_below_drewN | apply below_drew1) | exact HB.out)⟩


def spec_blend.f (a0 : Int) (a1 : Int) (a2 : Int) (a3 : Int) : Option (Int) := (spec_mix.f a0 a1 a2).bind fun t146001 => (some (wrap64 (Int.tdiv (wrap64 ((wrap64 (2 * (wrap64 ((wrap64 (a3 * t146001)) + (wrap64 ((wrap64 (255 - a3)) * a1)))))) + 255)) 510)))
set_option maxHeartbeats 8000000 in
set_option maxRecDepth 100000 in
theorem spec_blend.calls (a0 : Int) (a1 : Int) (a2 : Int) (a3 : Int) (r : Int) (w : World) (h : spec_blend.f a0 a1 a2 a3 = some r) :
  Calls Try.prog 145 #[.int .i64 a0, .int .i64 a1, .int .i64 a2, .int .i64 a3] w fun e w' => e = .returned (.int .i64 r) ∧ Below w.heap.size w w' := by
 have HB := Aside0.mk (Below.refl w.heap.size w)
 have H : ((spec_mix.f a0 a1 a2).bind fun t146001 => (some (wrap64 (Int.tdiv (wrap64 ((wrap64 (2 * (wrap64 ((wrap64 (a3 * t146001)) + (wrap64 ((wrap64 (255 - a3)) * a1)))))) + 255)) 510)))) = some r := h
 clear h
 replace H := Option.bind_eq_some_iff.mp H
 obtain ⟨t146001, A50, H⟩ := H
 replace H : (some (wrap64 (Int.tdiv (wrap64 ((wrap64 (2 * (wrap64 ((wrap64 (a3 * t146001)) + (wrap64 ((wrap64 (255 - a3)) * a1)))))) + 255)) 510))) = some r := H
 have A5 := Aside0.mk A50
 clear A50
 obtain rfl := Option.some.inj H
 go_enter Try.func145, Try.ntmps145
 go_wp2_with (first | ((with_reducible refine gate_callee (f := 157) rfl ?_); refine goesL_ (some 14) rfl rfl Try.func157 (by kernel_rfl) rfl #[.int .i64 a0, .int .i64 a1, .int .i64 a2] rfl (by (try simp only [List.map_toArray, List.map_cons, List.map_nil]); first | done | rfl | (simp only [List.length_drop, List.length_take]; rfl)) ?_; (with_reducible refine (spec_mix.calls a0 a1 a2 t146001 _ A5.out).mono ?_); rintro e w6 ⟨rfl, hb⟩; refine ⟨_, rfl, ?_⟩; have n0_ := Aside0.mk (below_step (by repeat (first | (with_reducible first | exact HB.out | apply below_alloc | apply pw_below_drewN | apply below_drew1) | exact HB.out)) hb); clear HB; have HB := n0_; clear n0_; (try clear hb); (try clear hb2); (try clear hk); (try clear hi)))
 go_ret
 exact ⟨by first | rfl | (simp [errW_none, errW_some] <;> rfl) | (simp [*, errW_none, errW_some] <;> rfl), by repeat (first | (with_reducible first | exact HB.out | apply below_alloc | apply pw_below_drewN | apply below_drew1) | exact HB.out)⟩

end Go.Proofs.Ytnofkbbcbpjhfaa.Q
