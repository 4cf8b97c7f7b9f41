/- A part of the proof that the statement FnExactSimplifyStepsSaid holds, under no condition of its own: The program's SimplifySteps and the reference's return the same, and what is returned is held by nobody else: over lists of numbers alone. -/
import Derived.Test.YtgfjccegehnjcaaProg
import Derived.Below
import Derived.Deep.Draws
import Derived.Deep.AppendLies
import Derived.Maps.AppendAt
import Derived.OwnWalk
import Derived.Laws.BytesArg
import Derived.Laws.MakeOwn
import Derived.Laws.OwnMore
import Derived.Deep.OwnRows
import Derived.Tactics
import Derived.Lib.ConvBytes
import Derived.Laws.Slices
import Derived.WalkKit
import Derived.KernelRfl
import Derived.RowKit3
import Derived.Deep.LoopGhost
import Derived.Deep.QuietTactic
import Derived.BigQuiet
import Derived.WideLaws
import Derived.Deep.DeepCutAuto
import Derived.Deep.CutBlock
import Derived.Deep.RegionHeld3
import Derived.Laws.Rows
import Derived.Lib.AppendStr
import Derived.ArgAppend
import Derived.Laws.IdiomCopy
import Derived.OrdersHeld
import Derived.Laws.BitsLemmas
import Derived.RowKit
import Derived.Test.YtgfjccegehnjcaaCFnExactSimplifyStepsW1
import Derived.Shelf.Abstract
namespace Go.Proofs.Ytgfjccegehnjcaa.Q
open Go.RowKit Go.Proofs.YtgfjccegehnjcaaW.PrintWords Go.Proofs.YtgfjccegehnjcaaW.PrintLast Go.Proofs.YtgfjccegehnjcaaW.PrintMore
attribute [local go_sem] max2_int min2_int max_two min_two max_three min_three max_four min_four
set_option linter.unusedVariables false
set_option linter.unusedSimpArgs false
def errW : Option Int → Value
  | none => .nilIface
  | some c => .iface 0 (.int .i64 c)
theorem errW_none : errW none = .nilIface := rfl
theorem errW_some (c : Int) : errW (some c) = .iface 0 (.int .i64 c) := rfl
theorem info3 : (Try.prog.info? 3).map (fun i => (i.zero, i.size, i.bytes)) = some (some (.int .i64 0), 1, 8) := by kernel_rfl
theorem info59 : (Try.prog.info? 59).map (fun i => (i.zero, i.size, i.bytes)) = some (some (.agg #[(.int .i64 0), (.int .i64 0), (.int .i64 0), (.int .i64 0), (.int .i64 0), (.slice none 0 0)]), 6, 64) := by kernel_rfl
structure S7 where
  f0 : Int
  f1 : Int
  f2 : Bool
  f3 : Int
structure S8 where
  f0 : Int
  f1 : Int
  f2 : Bool
  f3 : Int
structure S13 where
  f0 : ByteArray
  f1 : Int
structure S14 where
  f0 : ByteArray
  f1 : Int
structure S71 where
  f0 : Int
  f1 : Int
  f2 : Int
  f3 : Int
def z71 : S71 := ⟨(0 : Int), (0 : Int), (0 : Int), (0 : Int)⟩
def k71 : Kd S71 := Kd.iso (Kd.pair (Kd.int .i64) (Kd.pair (Kd.int .i64) (Kd.pair (Kd.int .i64) (Kd.int .i64)))) (fun x : S71 => (x.f0, x.f1, x.f2, x.f3))
theorem k71_open {w : World} {x : S71} {cs : List Value} (h : k71.K w x cs) : cs = [.int .i64 x.f0, .int .i64 x.f1, .int .i64 x.f2, .int .i64 x.f3] := by
  obtain ⟨_, _, rfl, rfl, ⟨_, _, rfl, rfl, ⟨_, _, rfl, rfl, rfl⟩⟩⟩ := h
  exact rfl
structure S50 where
  f0 : Int
  f1 : Int
  f2 : Int
  f3 : Int
def z50 : S50 := ⟨(0 : Int), (0 : Int), (0 : Int), (0 : Int)⟩
def k50 : Kd S50 := Kd.iso (Kd.pair (Kd.int .i64) (Kd.pair (Kd.int .i64) (Kd.pair (Kd.int .i64) (Kd.int .i64)))) (fun x : S50 => (x.f0, x.f1, x.f2, x.f3))
theorem k50_open {w : World} {x : S50} {cs : List Value} (h : k50.K w x cs) : cs = [.int .i64 x.f0, .int .i64 x.f1, .int .i64 x.f2, .int .i64 x.f3] := by
  obtain ⟨_, _, rfl, rfl, ⟨_, _, rfl, rfl, ⟨_, _, rfl, rfl, rfl⟩⟩⟩ := h
  exact rfl
theorem k50_openM {w : World} {base : Nat} {ok : Nat → Prop} {x : S50} {cs : List Value} (h : k50.M w base ok x cs) : cs = [.int .i64 x.f0, .int .i64 x.f1, .int .i64 x.f2, .int .i64 x.f3] := by
  obtain ⟨_, _, rfl, rfl, ⟨_, _, rfl, rfl, ⟨_, _, rfl, rfl, rfl⟩⟩⟩ := h
  exact rfl
theorem k50_mkM (w : World) (base : Nat) (ok : Nat → Prop) (x : S50)  : k50.M w base ok x [.int .i64 x.f0, .int .i64 x.f1, .int .i64 x.f2, .int .i64 x.f3] := ⟨[.int .i64 x.f0], [.int .i64 x.f1, .int .i64 x.f2, .int .i64 x.f3], rfl, rfl, ⟨[.int .i64 x.f1], [.int .i64 x.f2, .int .i64 x.f3], rfl, rfl, ⟨[.int .i64 x.f2], [.int .i64 x.f3], rfl, rfl, rfl⟩⟩⟩
structure S74 where
  f0 : Int
  f1 : Int
def k74 : Kd S74 := Kd.iso (Kd.pair (Kd.int .i64) (Kd.int .i64)) (fun x : S74 => (x.f0, x.f1))
structure S42 where
  f0 : Int
  f1 : Int
structure S41 where
  f0 : Int
  f1 : Int
structure S49 where
  f0 : Int
  f1 : Int
  f2 : Int
  f3 : Int
structure S59 where
  f0 : Int
  f1 : S50
  f2 : (List Int)
def z59 : S59 := ⟨(0 : Int), z50, ([] : List Int)⟩
def k59 : Kd S59 := Kd.iso (Kd.pair (Kd.int .i64) (Kd.pair k50 (Kd.slice 3 (Kd.int .i64)))) (fun x : S59 => (x.f0, x.f1, x.f2))
theorem k59_open {w : World} {x : S59} {cs : List Value} (h : k59.K w x cs) : ∃ A5 c5, cs = [.int .i64 x.f0, .int .i64 x.f1.f0, .int .i64 x.f1.f1, .int .i64 x.f1.f2, .int .i64 x.f1.f3, .slice A5 x.f2.length c5] ∧ x.f2.length ≤ c5 ∧ (Kd.int .i64).C w A5 x.f2.length x.f2 := by
  obtain ⟨_, _, rfl, rfl, ⟨_, _, rfl, s1, ⟨A5, c5, rfl, l5, g5⟩⟩⟩ := h
  obtain rfl := k50_open s1
  exact ⟨A5, c5, rfl, l5, g5⟩
theorem k59_openM {w : World} {base : Nat} {ok : Nat → Prop} {x : S59} {cs : List Value} (h : k59.M w base ok x cs) : ∃ v5, cs = [.int .i64 x.f0, .int .i64 x.f1.f0, .int .i64 x.f1.f1, .int .i64 x.f1.f2, .int .i64 x.f1.f3, v5] ∧ (Kd.int .i64).R 3 w base ok v5 x.f2 := by
  obtain ⟨_, _, rfl, rfl, ⟨_, _, rfl, s1, ⟨v5, rfl, g5⟩⟩⟩ := h
  obtain rfl := k50_openM s1
  exact ⟨v5, rfl, g5⟩
theorem k59_mkM (w : World) (base : Nat) (ok : Nat → Prop) (x : S59) {v5 : Value} (g5 : (Kd.int .i64).R 3 w base ok v5 x.f2) : k59.M w base ok x [.int .i64 x.f0, .int .i64 x.f1.f0, .int .i64 x.f1.f1, .int .i64 x.f1.f2, .int .i64 x.f1.f3, v5] := ⟨[.int .i64 x.f0], [.int .i64 x.f1.f0, .int .i64 x.f1.f1, .int .i64 x.f1.f2, .int .i64 x.f1.f3, v5], rfl, rfl, ⟨[.int .i64 x.f1.f0, .int .i64 x.f1.f1, .int .i64 x.f1.f2, .int .i64 x.f1.f3], [v5], rfl, (k50_mkM w base ok x.f1 ), ⟨v5, rfl, g5⟩⟩⟩
theorem k59_openF {W : World} {ok : Nat → Prop} {x : S59} {cs : List Value} (h : Kd.FK k59 W ok x cs) : ∃ A5 c5, cs = [.int .i64 x.f0, .int .i64 x.f1.f0, .int .i64 x.f1.f1, .int .i64 x.f1.f2, .int .i64 x.f1.f3, .slice A5 x.f2.length c5] ∧ x.f2.length ≤ c5 ∧ Kd.F (Kd.int .i64) W ok A5 x.f2.length x.f2 := by
  obtain ⟨A5, c5, rfl, l5, _⟩ := k59_open (Kd.FK_now h)
  exact ⟨A5, c5, rfl, l5, (fun W' hW => by obtain ⟨A5_, c5_, he, l5_, g5_⟩ := k59_open (h W' hW); injection (Option.some.inj (show some (Value.slice A5 x.f2.length c5) = some (Value.slice A5_ x.f2.length c5_) from congrArg (fun l => l[5]?) he)) with ha_ _ _; rw [ha_]; exact g5_)⟩
def rd_T59 (xs : List S59) (i : Int) : S59 := xs.getD i.toNat z59
theorem at_T59 {w : World} {A : Option Addr} {n : Nat} {xs : List S59} (h : Kd.C k59 w A n xs) (i : Int) (h0 : 0 ≤ i) (h1 : i < n) : ∃ ad A5 c5, A = some ad ∧ w.cell? (ad.add (i.toNat * 6)) = some (.int .i64 (rd_T59 xs i).f0) ∧ w.cell? ⟨(ad.add (i.toNat * 6)).block, (ad.add (i.toNat * 6)).off + 1, none⟩ = some (.int .i64 (rd_T59 xs i).f1.f0) ∧ w.cell? ⟨(ad.add (i.toNat * 6)).block, (ad.add (i.toNat * 6)).off + 2, none⟩ = some (.int .i64 (rd_T59 xs i).f1.f1) ∧ w.cell? ⟨(ad.add (i.toNat * 6)).block, (ad.add (i.toNat * 6)).off + 3, none⟩ = some (.int .i64 (rd_T59 xs i).f1.f2) ∧ w.cell? ⟨(ad.add (i.toNat * 6)).block, (ad.add (i.toNat * 6)).off + 4, none⟩ = some (.int .i64 (rd_T59 xs i).f1.f3) ∧ w.cell? ⟨(ad.add (i.toNat * 6)).block, (ad.add (i.toNat * 6)).off + 5, none⟩ = some (.slice A5 (rd_T59 xs i).f2.length c5) ∧ (rd_T59 xs i).f2.length ≤ c5 ∧ (Kd.int .i64).C w A5 (rd_T59 xs i).f2.length (rd_T59 xs i).f2 := by
  obtain ⟨ad, c, e, _, hK, hc0⟩ := Kd.C_get h z59 i h0 h1
  have hc : ∀ j u, c[j]? = some u → w.cell? (ad.add (i.toNat * 6 + j)) = some u := hc0
  obtain ⟨A5, c5, rfl, l5, g5⟩ := k59_open hK
  exact ⟨ad, A5, c5, e, hc 0 _ rfl, by rw [← add_field _ _ 1 (by omega)]; exact hc 1 _ rfl, by rw [← add_field _ _ 2 (by omega)]; exact hc 2 _ rfl, by rw [← add_field _ _ 3 (by omega)]; exact hc 3 _ rfl, by rw [← add_field _ _ 4 (by omega)]; exact hc 4 _ rfl, by rw [← add_field _ _ 5 (by omega)]; exact hc 5 _ rfl, l5, g5⟩

structure S58 where
  f0 : Int
  f1 : S50
  f2 : (List Int)
structure S98 where
  f0 : Int
  f1 : S71
  f2 : (List Int)
def z98 : S98 := ⟨(0 : Int), z71, ([] : List Int)⟩
def k98 : Kd S98 := Kd.iso (Kd.pair (Kd.int .i64) (Kd.pair k71 (Kd.slice 3 (Kd.int .i64)))) (fun x : S98 => (x.f0, x.f1, x.f2))
theorem k98_open {w : World} {x : S98} {cs : List Value} (h : k98.K w x cs) : ∃ A5 c5, cs = [.int .i64 x.f0, .int .i64 x.f1.f0, .int .i64 x.f1.f1, .int .i64 x.f1.f2, .int .i64 x.f1.f3, .slice A5 x.f2.length c5] ∧ x.f2.length ≤ c5 ∧ (Kd.int .i64).C w A5 x.f2.length x.f2 := by
  obtain ⟨_, _, rfl, rfl, ⟨_, _, rfl, s1, ⟨A5, c5, rfl, l5, g5⟩⟩⟩ := h
  obtain rfl := k71_open s1
  exact ⟨A5, c5, rfl, l5, g5⟩
def rd_T98 (xs : List S98) (i : Int) : S98 := xs.getD i.toNat z98
theorem at_T98 {w : World} {A : Option Addr} {n : Nat} {xs : List S98} (h : Kd.C k98 w A n xs) (i : Int) (h0 : 0 ≤ i) (h1 : i < n) : ∃ ad A5 c5, A = some ad ∧ w.cell? (ad.add (i.toNat * 6)) = some (.int .i64 (rd_T98 xs i).f0) ∧ w.cell? ⟨(ad.add (i.toNat * 6)).block, (ad.add (i.toNat * 6)).off + 1, none⟩ = some (.int .i64 (rd_T98 xs i).f1.f0) ∧ w.cell? ⟨(ad.add (i.toNat * 6)).block, (ad.add (i.toNat * 6)).off + 2, none⟩ = some (.int .i64 (rd_T98 xs i).f1.f1) ∧ w.cell? ⟨(ad.add (i.toNat * 6)).block, (ad.add (i.toNat * 6)).off + 3, none⟩ = some (.int .i64 (rd_T98 xs i).f1.f2) ∧ w.cell? ⟨(ad.add (i.toNat * 6)).block, (ad.add (i.toNat * 6)).off + 4, none⟩ = some (.int .i64 (rd_T98 xs i).f1.f3) ∧ w.cell? ⟨(ad.add (i.toNat * 6)).block, (ad.add (i.toNat * 6)).off + 5, none⟩ = some (.slice A5 (rd_T98 xs i).f2.length c5) ∧ (rd_T98 xs i).f2.length ≤ c5 ∧ (Kd.int .i64).C w A5 (rd_T98 xs i).f2.length (rd_T98 xs i).f2 := by
  obtain ⟨ad, c, e, _, hK, hc0⟩ := Kd.C_get h z98 i h0 h1
  have hc : ∀ j u, c[j]? = some u → w.cell? (ad.add (i.toNat * 6 + j)) = some u := hc0
  obtain ⟨A5, c5, rfl, l5, g5⟩ := k98_open hK
  exact ⟨ad, A5, c5, e, hc 0 _ rfl, by rw [← add_field _ _ 1 (by omega)]; exact hc 1 _ rfl, by rw [← add_field _ _ 2 (by omega)]; exact hc 2 _ rfl, by rw [← add_field _ _ 3 (by omega)]; exact hc 3 _ rfl, by rw [← add_field _ _ 4 (by omega)]; exact hc 4 _ rfl, by rw [← add_field _ _ 5 (by omega)]; exact hc 5 _ rfl, l5, g5⟩

structure S86 where
  f0 : Int
  f1 : Int
  f2 : Int
  f3 : (List Int)
structure S87 where
  f0 : Int
  f1 : Int
  f2 : Int
  f3 : (List Int)
structure S97 where
  f0 : Int
  f1 : S71
  f2 : (List Int)
structure S106 where
  f0 : (List Int)
  f1 : Int
structure S107 where
  f0 : (List Int)
  f1 : Int

mutual
def spec_simpler.l0 : Nat → List (S59) → Int → Option ((List (S59)) × Bool)
  | 0, _, _ => none
  | k + 1, x0, x4 => if (wrap64 (x4 + 1)) < (x0.length : Int) then (if 0 ≤ x4 then (if x4 < (x0.length : Int) then (if 0 ≤ (wrap64 (x4 + 1)) then (if ((rd_T59 x0 x4).f0) = ((rd_T59 x0 (wrap64 (x4 + 1))).f0) then (if ((rd_T59 x0 x4).f0) = 0 then (spec_simpler.j1 k x0 x4 (((rd_T59 x0 x4).f0) == ((rd_T59 x0 (wrap64 (x4 + 1))).f0)) true) else (spec_simpler.j1 k x0 x4 (((rd_T59 x0 x4).f0) == ((rd_T59 x0 (wrap64 (x4 + 1))).f0)) (((rd_T59 x0 x4).f0) == 2))) else (spec_simpler.j1 k x0 x4 (((rd_T59 x0 x4).f0) == ((rd_T59 x0 (wrap64 (x4 + 1))).f0)) false)) else (none)) else (none)) else (none)) else (some (x0, false))
def spec_simpler.j1 : Nat → List (S59) → Int → Bool → Bool → Option ((List (S59)) × Bool)
  | 0, _, _, _, _ => none
  | k + 1, x0, x4, x5, x41 => if x41 = true then ((some (([] : List (S59)) : List (S59))).bind fun y76005 => (if 0 ≤ x4 then (if x4 ≤ (x0.length : Int) then ((some (x0.take (x4 : Int).toNat : List (S59))).bind fun y76008 => (if y76005.length + y76008.length < 2199023255552 then ((some (y76005 ++ y76008 : List (S59))).bind fun y76013 => (if 0 ≤ (wrap64 (x4 + 2)) then (if (wrap64 (x4 + 2)) ≤ (x0.length : Int) then ((some (x0.drop ((wrap64 (x4 + 2)) : Int).toNat : List (S59))).bind fun y76016 => (if y76013.length + y76016.length < 2199023255552 then (some ((y76013 ++ y76016), true)) else (none))) else (none)) else (none))) else (none))) else (none)) else (none))) else (if (wrap64 (x4 + 3)) < (x0.length : Int) then (if 0 ≤ x4 then (if x4 < (x0.length : Int) then (if ((rd_T59 x0 x4).f0) = 1 then (if x5 = true then (if 0 ≤ (wrap64 (x4 + 2)) then (if (wrap64 (x4 + 2)) < (x0.length : Int) then (if ((rd_T59 x0 (wrap64 (x4 + 2))).f0) = 1 then (if 0 ≤ (wrap64 (x4 + 3)) then (if ((rd_T59 x0 (wrap64 (x4 + 3))).f0) = 1 then ((some (([] : List (S59)) : List (S59))).bind fun y76027 => (if x4 ≤ (x0.length : Int) then ((some (x0.take (x4 : Int).toNat : List (S59))).bind fun y76030 => (if y76027.length + y76030.length < 2199023255552 then ((some (y76027 ++ y76030 : List (S59))).bind fun y76035 => (if 0 ≤ (wrap64 (x4 + 4)) then (if (wrap64 (x4 + 4)) ≤ (x0.length : Int) then ((some (x0.drop ((wrap64 (x4 + 4)) : Int).toNat : List (S59))).bind fun y76038 => (if y76035.length + y76038.length < 2199023255552 then (some ((y76035 ++ y76038), true)) else (none))) else (none)) else (none))) else (none))) else (none))) else (spec_simpler.l0 k x0 (wrap64 (x4 + 1)))) else (none)) else (spec_simpler.l0 k x0 (wrap64 (x4 + 1)))) else (none)) else (none)) else (spec_simpler.l0 k x0 (wrap64 (x4 + 1)))) else (spec_simpler.l0 k x0 (wrap64 (x4 + 1)))) else (none)) else (none)) else (spec_simpler.l0 k x0 (wrap64 (x4 + 1))))
end
def spec_simpler.f (k : Nat) (l0 : List (S59)) : Option ((List (S59)) × Bool) := spec_simpler.l0 k l0 0
def spec_simpler.T4 : Bool × List (List Nat × List Nat) := (true, [([], []), ([], []), ([0, 1], [0, 1]), ([2], [2]), ([3], [3]), ([], []), ([], []), ([6], [6]), ([5, 7], [5, 7]), ([8], [8]), ([9], [9]), ([4, 10], [4, 10]), ([11, 0, 1, 2, 3, 4, 5, 6, 7, 8, 9, 10, 11], [11])])
def spec_simpler.B4 : List Nat := [0, 0, 3, 7, 15, 0, 0, 64, 224, 480, 992, 2047, 4095]
theorem spec_simpler.tab4 : rtab .any (opsOf Try.f75 4) = spec_simpler.T4 := by kernel_rfl
theorem spec_simpler.bits4 : waitsOk spec_simpler.T4.2 spec_simpler.B4 = true := by kernel_rfl
def spec_simpler.T6 : Bool × List (List Nat × List Nat) := (true, [([], []), ([], []), ([], []), ([1, 2], [1, 2]), ([0, 3], [0, 3]), ([], []), ([], []), ([6], [6]), ([5, 7], [5, 7]), ([4, 8, 4], [4, 8]), ([9, 9, 0, 1, 2, 3, 4, 5, 6, 7, 8, 9], [9]), ([10, 0, 1, 2, 3, 4, 5, 6, 7, 8, 9, 10], [])])
def spec_simpler.B6 : List Nat := [0, 0, 0, 6, 15, 0, 0, 64, 224, 511, 1023, 2047]
theorem spec_simpler.tab6 : rtab .any (opsOf Try.f75 6) = spec_simpler.T6 := by kernel_rfl
theorem spec_simpler.bits6 : waitsOk spec_simpler.T6.2 spec_simpler.B6 = true := by kernel_rfl
def spec_simpler.T8 : Bool × List (List Nat × List Nat) := (true, [([], []), ([], []), ([], []), ([1, 2], [1, 2]), ([0, 3], [0, 3]), ([], []), ([], []), ([6], [6]), ([5, 7], [5, 7]), ([4, 8, 4], [4, 8]), ([9, 9, 0, 1, 2, 3, 4, 5, 6, 7, 8, 9], [9]), ([10, 0, 1, 2, 3, 4, 5, 6, 7, 8, 9, 10], [])])
def spec_simpler.B8 : List Nat := [0, 0, 0, 6, 15, 0, 0, 64, 224, 511, 1023, 2047]
theorem spec_simpler.tab8 : rtab .any (opsOf Try.f75 8) = spec_simpler.T8 := by kernel_rfl
theorem spec_simpler.bits8 : waitsOk spec_simpler.T8.2 spec_simpler.B8 = true := by kernel_rfl
set_option maxHeartbeats 8000000 in
set_option maxRecDepth 100000 in
theorem spec_simpler.calls (k : Nat) (P0_ : Nat → Prop) (A0 : Option Addr) (c0 : Nat) (l0 : List (S59)) (r1 : List (S59)) (r2 : Bool) (w : World) (hs0 : Kd.V k59 59 w w.heap.size (fun k_ => P0_ k_) (.slice A0 l0.length c0) l0) (h : spec_simpler.f k l0 = some (r1, r2)) :
    Calls Try.prog 75 #[.slice A0 l0.length c0] w fun e w' => ∃ v0_ : Value, e = .returned (.tuple #[v0_, .bool r2]) ∧ Kd.V k59 59 w' w.heap.size (fun k_ => (P0_ k_ ∨ w.heap.size ≤ k_)) v0_ r1 ∧ Below w.heap.size w w' := by
  have HO0 := Aside0.mk (show Kd.V k59 59 w w.heap.size (fun k_ => (P0_ k_ ∨ w.heap.size ≤ k_)) (.slice A0 l0.length c0) l0 from Kd.V_mono hs0 (fun k_ hk => .inl hk))
  have HB := Aside0.mk (Below.refl w.heap.size w)
  have H : (spec_simpler.l0 k l0 0) = some (r1, r2) := h
  clear h
  have H' := Aside0.mk H
  clear H
  go_enter Try.func75, Try.ntmps75
  go_wp2
  go_loopg [4] k (fun kq v4 w' => ∃ (x4_1 : Int), v4 = .int .i64 x4_1 ∧ Aside0 (spec_simpler.l0 kq l0 x4_1 = some (r1, r2)) ∧ Aside0 (kq ≤ k) ∧ Aside0 (Kd.V k59 59 w' w.heap.size (fun k_ => (P0_ k_ ∨ w.heap.size ≤ k_)) (.slice A0 l0.length c0) l0) ∧ Aside0 (Below w.heap.size w w'))
  case atStart => exact ⟨(0), (by first | rfl | (simp; done) | (simp [*]; done)), H', ⟨Nat.le_refl _⟩, ⟨by (with_reducible repeat (first | apply Kd.V_alloc | apply Kd.V_drewN | apply Kd.V_drew)); exact HO0.out⟩, ⟨by repeat (first | (with_reducible first | exact HB.out | apply below_alloc | apply pw_below_drewN | apply below_drew1) | exact HB.out)⟩⟩
  case round =>
    clear H'
    obtain ⟨x4_1, rfl, HA, HK1, HO_0, HB⟩ := hrel
    cases gk with
    | zero => exact absurd HA.out (by simp [spec_simpler.l0])
    | succ k1 =>
      have H := HA.out
      clear HA
      simp only [spec_simpler.l0] at H
      by_cases c2 : (wrap64 (x4_1 + 1)) < (l0.length : Int)
      · rw [if_pos c2] at H
        have c2b0 : decide ((wrap64 (x4_1 + 1)) < (l0.length : Int)) = true := decide_eq_true c2
        clear c2
        by_cases c3 : 0 ≤ x4_1
        · rw [if_pos c3] at H
          have c3b0 : decide (0 ≤ x4_1) = true := decide_eq_true c3
          clear c3
          by_cases c4 : x4_1 < (l0.length : Int)
          · rw [if_pos c4] at H
            have c4b0 : decide (x4_1 < (l0.length : Int)) = true := decide_eq_true c4
            clear c4
            obtain ⟨ji5, hji5⟩ : ∃ j_ : Int, (wrap64 (x4_1 + 1)) = j_ := ⟨_, rfl⟩
            replace H : (if 0 ≤ (ji5) then (if ((rd_T59 l0 x4_1).f0) = ((rd_T59 l0 (ji5)).f0) then (if ((rd_T59 l0 x4_1).f0) = 0 then (spec_simpler.j1 k1 l0 x4_1 (((rd_T59 l0 x4_1).f0) == ((rd_T59 l0 (ji5)).f0)) true) else (spec_simpler.j1 k1 l0 x4_1 (((rd_T59 l0 x4_1).f0) == ((rd_T59 l0 (ji5)).f0)) (((rd_T59 l0 x4_1).f0) == 2))) else (spec_simpler.j1 k1 l0 x4_1 (((rd_T59 l0 x4_1).f0) == ((rd_T59 l0 (ji5)).f0)) false)) else (none)) = some (r1, r2) := by first | (rw [hji5] at H; exact H) | (simp only [hji5] at H ⊢; exact H)
            (try rw [hji5] at c2b0)
            have hji5w : (IntKind.i64.wrap (x4_1 + 1)) = ji5 := (i64_w _).trans hji5
            by_cases c6 : 0 ≤ (ji5)
            · rw [if_pos c6] at H
              have c6b0 : decide (0 ≤ (ji5)) = true := decide_eq_true c6
              clear c6
              have HC7 := Aside0.mk H
              clear H
              try go_wp2
              have n0_ := Aside0.mk (Kd.V_drew HO_0.out)
              have n1_ := Aside0.mk (below_drew1 HB.out)
              clear HO_0
              clear HB
              have HO_0 := n0_
              have HB := n1_
              clear n0_ n1_
              have p76001 : 0 ≤ (x4_1 : Int) := of_decide_eq_true (by first | (with_reducible assumption) | assumption)
              have q76001 : x4_1 < (l0.length : Int) := of_decide_eq_true (by first | (with_reducible assumption) | assumption)
              obtain ⟨ad76001, A76001_5, c76001_5, e76001, hx76001_0, hx76001_1, hx76001_2, hx76001_3, hx76001_4, hx76001_5, hl76001_5, hi76001_5⟩ := at_T59 (Kd.V_reads' HO_0.out).2.2 x4_1 p76001 q76001
              cases e76001
              obtain ⟨ce76001, hce76001, hMe76001, hcc76001⟩ := Kd.V_get HO_0.out z59 x4_1 p76001 (by first | exact q76001 | exact of_decide_eq_true (by first | (with_reducible assumption) | assumption) | (have e_ := (Kd.V_reads' HO_0.out).1; omega))
              obtain ⟨ua76001_5, uc76001_5, rfl, ul76001_5, ge76001_5⟩ := k59_openF hMe76001
              have hv76001_5 := hcc76001 5 _ rfl
              rw [add_field _ _ 5 (by omega)] at hv76001_5
              replace hv76001_5 := Option.some.inj (hv76001_5.symm.trans hx76001_5)
              injection hv76001_5 with hva_ hvn_ hvc_
              rw [hva_] at ge76001_5
              rw [hvc_] at ul76001_5
              have HL76001_5 := Aside0.mk (show Kd.V (Kd.int .i64) 3 _ w.heap.size _ _ ((rd_T59 l0 x4_1).f2) from Kd.V_mk ul76001_5 ge76001_5)
              clear hva_ hvn_ hvc_ ge76001_5 ul76001_5
              clear hcc76001 hce76001
              have HR76001_5 := Aside0.mk hi76001_5
              have HC76001_5 := Aside0.mk hl76001_5
              clear hi76001_5 hl76001_5
              replace p76001 := eq_true p76001
              replace q76001 := eq_true q76001
              have p76002 : 0 ≤ ((ji5) : Int) := of_decide_eq_true (by first | (with_reducible assumption) | assumption)
              have q76002 : (ji5) < (l0.length : Int) := of_decide_eq_true (by first | (with_reducible assumption) | assumption)
              obtain ⟨ad76002, A76002_5, c76002_5, e76002, hx76002_0, hx76002_1, hx76002_2, hx76002_3, hx76002_4, hx76002_5, hl76002_5, hi76002_5⟩ := at_T59 (Kd.V_reads' HO_0.out).2.2 (ji5) p76002 q76002
              obtain rfl : ad76001 = ad76002 := (by injection e76002)
              obtain ⟨ce76002, hce76002, hMe76002, hcc76002⟩ := Kd.V_get HO_0.out z59 (ji5) p76002 (by first | exact q76002 | exact of_decide_eq_true (by first | (with_reducible assumption) | assumption) | (have e_ := (Kd.V_reads' HO_0.out).1; omega))
              obtain ⟨ua76002_5, uc76002_5, rfl, ul76002_5, ge76002_5⟩ := k59_openF hMe76002
              have hv76002_5 := hcc76002 5 _ rfl
              rw [add_field _ _ 5 (by omega)] at hv76002_5
              replace hv76002_5 := Option.some.inj (hv76002_5.symm.trans hx76002_5)
              injection hv76002_5 with hva_ hvn_ hvc_
              rw [hva_] at ge76002_5
              rw [hvc_] at ul76002_5
              have HL76002_5 := Aside0.mk (show Kd.V (Kd.int .i64) 3 _ w.heap.size _ _ ((rd_T59 l0 (ji5)).f2) from Kd.V_mk ul76002_5 ge76002_5)
              clear hva_ hvn_ hvc_ ge76002_5 ul76002_5
              clear hcc76002 hce76002
              have HR76002_5 := Aside0.mk hi76002_5
              have HC76002_5 := Aside0.mk hl76002_5
              clear hi76002_5 hl76002_5
              replace p76002 := eq_true p76002
              replace q76002 := eq_true q76002
              refine start_ (n := 13) (S := fun w' => w'.cell? (ad76001.add ((x4_1).toNat * 6)) = some (.int .i64 ((rd_T59 l0 x4_1).f0)) ∧ w'.cell? ⟨(ad76001.add ((x4_1).toNat * 6)).block, (ad76001.add ((x4_1).toNat * 6)).off + 1, none⟩ = some (.int .i64 ((rd_T59 l0 x4_1).f1.f0)) ∧ w'.cell? ⟨(ad76001.add ((x4_1).toNat * 6)).block, (ad76001.add ((x4_1).toNat * 6)).off + 2, none⟩ = some (.int .i64 ((rd_T59 l0 x4_1).f1.f1)) ∧ w'.cell? ⟨(ad76001.add ((x4_1).toNat * 6)).block, (ad76001.add ((x4_1).toNat * 6)).off + 3, none⟩ = some (.int .i64 ((rd_T59 l0 x4_1).f1.f2)) ∧ w'.cell? ⟨(ad76001.add ((x4_1).toNat * 6)).block, (ad76001.add ((x4_1).toNat * 6)).off + 4, none⟩ = some (.int .i64 ((rd_T59 l0 x4_1).f1.f3)) ∧ w'.cell? ⟨(ad76001.add ((x4_1).toNat * 6)).block, (ad76001.add ((x4_1).toNat * 6)).off + 5, none⟩ = some (.slice A76001_5 ((rd_T59 l0 x4_1).f2).length c76001_5) ∧ w'.cell? (ad76001.add (((ji5)).toNat * 6)) = some (.int .i64 ((rd_T59 l0 (ji5)).f0)) ∧ w'.cell? ⟨(ad76001.add (((ji5)).toNat * 6)).block, (ad76001.add (((ji5)).toNat * 6)).off + 1, none⟩ = some (.int .i64 ((rd_T59 l0 (ji5)).f1.f0)) ∧ w'.cell? ⟨(ad76001.add (((ji5)).toNat * 6)).block, (ad76001.add (((ji5)).toNat * 6)).off + 2, none⟩ = some (.int .i64 ((rd_T59 l0 (ji5)).f1.f1)) ∧ w'.cell? ⟨(ad76001.add (((ji5)).toNat * 6)).block, (ad76001.add (((ji5)).toNat * 6)).off + 3, none⟩ = some (.int .i64 ((rd_T59 l0 (ji5)).f1.f2)) ∧ w'.cell? ⟨(ad76001.add (((ji5)).toNat * 6)).block, (ad76001.add (((ji5)).toNat * 6)).off + 4, none⟩ = some (.int .i64 ((rd_T59 l0 (ji5)).f1.f3)) ∧ w'.cell? ⟨(ad76001.add (((ji5)).toNat * 6)).block, (ad76001.add (((ji5)).toNat * 6)).off + 5, none⟩ = some (.slice A76002_5 ((rd_T59 l0 (ji5)).f2).length c76002_5)) (ds := []) #[false, false, false, false, false, false, false, false, false, false, false, false, false] (by kernel_rfl) rfl rfl ⟨hx76001_0, hx76001_1, hx76001_2, hx76001_3, hx76001_4, hx76001_5, hx76002_0, hx76002_1, hx76002_2, hx76002_3, hx76002_4, hx76002_5⟩ (fun hHeld => ?_); refine with_tabW spec_simpler.tab4 spec_simpler.bits4 (fun HT_ HW_ => ?_)
              generalize wr.drew = w8 at HO_0 HB HL76001_5 HL76002_5 HR76001_5 HR76002_5 hx76001_0 hx76001_1 hx76001_2 hx76001_3 hx76001_4 hx76001_5 hx76002_0 hx76002_1 hx76002_2 hx76002_3 hx76002_4 hx76002_5 hHeld ⊢
              refine pure_ (i := 0) (N := some 13) (v := ?_) (a' := ?_) #[true, false, false, false, false, false, false, false, false, false, false, false, false] rfl rfl (any_of HT_.out (by kernel_rfl)) (fun _ _ _ h => h) (Or.inl ⟨by rfl, ?_⟩) ?_ ?_
              rotate_left
              · intro w'
                go_simp
                with_reducible rfl
              rotate_left
              · simp only [Act.put, List.setIfInBounds_toArray, List.set_cons_zero, List.set_cons_succ, i64_w, i32_w]
                rfl
              refine pure_ (i := 1) (N := some 14) (v := ?_) (a' := ?_) #[true, true, false, false, false, false, false, false, false, false, false, false, false] rfl rfl (any_of HT_.out (by kernel_rfl)) (fun _ _ _ h => h) (Or.inl ⟨by rfl, ?_⟩) ?_ ?_
              rotate_left
              · intro w'
                go_simp
                with_reducible rfl
              rotate_left
              · simp only [Act.put, List.setIfInBounds_toArray, List.set_cons_zero, List.set_cons_succ, i64_w, i32_w]
                rfl
              refine pure_ (i := 2) (N := some 15) (v := ?_) (a' := ?_) #[true, true, true, false, false, false, false, false, false, false, false, false, false] rfl rfl (any_of HT_.out (by kernel_rfl)) (fun _ _ _ h => h) (Or.inl ⟨by rfl, ?_⟩) ?_ ?_
              rotate_left
              · intro w'
                go_simp
                with_reducible rfl
              rotate_left
              · simp only [Act.put, List.setIfInBounds_toArray, List.set_cons_zero, List.set_cons_succ, i64_w, i32_w]
                rfl
              refine pure_ (i := 3) (N := some 16) (v := ?_) (a' := ?_) #[true, true, true, true, false, false, false, false, false, false, false, false, false] rfl rfl (any_of HT_.out (by kernel_rfl)) (fun _ _ _ h => h) (Or.inl ⟨by rfl, ?_⟩) ?_ ?_
              rotate_left
              · intro w'
                go_simp
                with_reducible rfl
              rotate_left
              · simp only [Act.put, List.setIfInBounds_toArray, List.set_cons_zero, List.set_cons_succ, i64_w, i32_w]
                rfl
              refine pure_ (i := 5) (N := some 18) (v := ?_) (a' := ?_) #[true, true, true, true, false, true, false, false, false, false, false, false, false] rfl rfl (any_of HT_.out (by kernel_rfl)) (fun _ _ _ h => h) (Or.inl ⟨by rfl, ?_⟩) ?_ ?_
              rotate_left
              · intro w'
                go_simp
                with_reducible rfl
              rotate_left
              · simp only [Act.put, List.setIfInBounds_toArray, List.set_cons_zero, List.set_cons_succ, i64_w, i32_w]
                rfl
              refine pure_ (i := 6) (N := some 19) (v := ?_) (a' := ?_) #[true, true, true, true, false, true, true, false, false, false, false, false, false] rfl rfl (any_of HT_.out (by kernel_rfl)) (fun _ _ _ h => h) (Or.inl ⟨by rfl, ?_⟩) ?_ ?_
              rotate_left
              · intro w'
                go_simp
                with_reducible rfl
              rotate_left
              · simp only [Act.put, List.setIfInBounds_toArray, List.set_cons_zero, List.set_cons_succ, i64_w, i32_w]
                rfl
              refine pure_ (i := 7) (N := some 20) (v := ?_) (a' := ?_) #[true, true, true, true, false, true, true, true, false, false, false, false, false] rfl rfl (any_of HT_.out (by kernel_rfl)) (fun _ _ _ h => h) (Or.inl ⟨by rfl, ?_⟩) ?_ ?_
              rotate_left
              · intro w'
                go_simp
                with_reducible rfl
              rotate_left
              · simp only [Act.put, List.setIfInBounds_toArray, List.set_cons_zero, List.set_cons_succ, i64_w, i32_w]
                rfl
              refine pure_ (i := 8) (N := some 21) (v := ?_) (a' := ?_) #[true, true, true, true, false, true, true, true, true, false, false, false, false] rfl rfl (any_of HT_.out (by kernel_rfl)) (fun _ _ _ h => h) (Or.inl ⟨by rfl, ?_⟩) ?_ ?_
              rotate_left
              · intro w'
                go_simp
                with_reducible rfl
              rotate_left
              · simp only [Act.put, List.setIfInBounds_toArray, List.set_cons_zero, List.set_cons_succ, i64_w, i32_w]
                rfl
              refine pure_ (i := 9) (N := some 22) (v := ?_) (a' := ?_) #[true, true, true, true, false, true, true, true, true, true, false, false, false] rfl rfl (any_of HT_.out (by kernel_rfl)) (fun _ _ _ h => h) (Or.inl ⟨by rfl, ?_⟩) ?_ ?_
              rotate_left
              · intro w'
                go_simp
                with_reducible rfl
              rotate_left
              · simp only [Act.put, List.setIfInBounds_toArray, List.set_cons_zero, List.set_cons_succ, i64_w, i32_w]
                rfl
              refine take_ (i := 4) (N := some 17) (v := ?_) (a' := ?_) #[true, true, true, true, true, true, true, true, true, true, false, false, false] rfl rfl (take_ofW HT_.out HW_.out (by kernel_rfl)) (fun _ _ _ h => h) (Or.inl ⟨by rfl, ?_⟩) hHeld ?_ ?_
              rotate_left
              · rintro w' ⟨s0, s1, s2, s3, s4, s5, s6, s7, s8, s9, s10, s11⟩
                go_simp
                with_reducible rfl
              rotate_left
              · simp only [Act.put, List.setIfInBounds_toArray, List.set_cons_zero, List.set_cons_succ, i64_w, i32_w]
                rfl
              refine take_ (i := 10) (N := some 23) (v := ?_) (a' := ?_) #[true, true, true, true, true, true, true, true, true, true, true, false, false] rfl rfl (take_ofW HT_.out HW_.out (by kernel_rfl)) (fun _ _ _ h => h) (Or.inl ⟨by rfl, ?_⟩) hHeld ?_ ?_
              rotate_left
              · rintro w' ⟨s0, s1, s2, s3, s4, s5, s6, s7, s8, s9, s10, s11⟩
                go_simp
                with_reducible rfl
              rotate_left
              · simp only [Act.put, List.setIfInBounds_toArray, List.set_cons_zero, List.set_cons_succ, i64_w, i32_w]
                rfl
              refine pure_ (i := 11) (N := some 24) (v := ?_) (a' := ?_) #[true, true, true, true, true, true, true, true, true, true, true, true, false] rfl rfl (any_of HT_.out (by kernel_rfl)) (fun _ _ _ h => h) (Or.inl ⟨by rfl, ?_⟩) ?_ ?_
              rotate_left
              · intro w'
                go_simp
                with_reducible rfl
              rotate_left
              · simp only [Act.put, List.setIfInBounds_toArray, List.set_cons_zero, List.set_cons_succ, i64_w, i32_w]
                rfl
              refine pure_ (i := 12) (N := some 5) (v := ?_) (a' := ?_) #[true, true, true, true, true, true, true, true, true, true, true, true, true] rfl rfl (any_of HT_.out (by kernel_rfl)) (fun _ _ _ h => h) (Or.inl ⟨by rfl, ?_⟩) ?_ ?_
              rotate_left
              · intro w'
                go_simp
                with_reducible rfl
              rotate_left
              · simp only [Act.put, List.setIfInBounds_toArray, List.set_cons_zero, List.set_cons_succ, i64_w, i32_w]
                rfl
              refine done_ (done_of HT_.out (by kernel_rfl)) ?_
              go_upto_region 5 with (fail)
              go_cut [5, 41] (fun v5 v41 wc => ∃ (kq : Nat) (x41_6 : Bool), v5 = .bool (((rd_T59 l0 x4_1).f0) == ((rd_T59 l0 (ji5)).f0)) ∧ v41 = .bool x41_6 ∧ Aside0 (spec_simpler.j1 kq l0 x4_1 (((rd_T59 l0 x4_1).f0) == ((rd_T59 l0 (ji5)).f0)) x41_6 = some (r1, r2)) ∧ Aside0 (kq ≤ k1) ∧ Aside0 (Kd.V k59 59 wc w.heap.size (fun k_ => (P0_ k_ ∨ w.heap.size ≤ k_)) (.slice (some ad76001) l0.length c0) l0) ∧ Aside0 (Kd.C (Kd.int .i64) wc A76001_5 ((rd_T59 l0 x4_1).f2).length ((rd_T59 l0 x4_1).f2)) ∧ Aside0 (Kd.C (Kd.int .i64) wc A76002_5 ((rd_T59 l0 (ji5)).f2).length ((rd_T59 l0 (ji5)).f2)) ∧ Aside0 (Below w.heap.size w wc))
              case first =>
                have H := HC7.out
                clear HC7
                by_cases c9 : ((rd_T59 l0 x4_1).f0) = ((rd_T59 l0 (ji5)).f0)
                · rw [if_pos c9] at H
                  have c9b0 : (((rd_T59 l0 x4_1).f0) == ((rd_T59 l0 (ji5)).f0)) = true := beq_iff_eq.mpr c9
                  have c9b1 : (((rd_T59 l0 x4_1).f0) != ((rd_T59 l0 (ji5)).f0)) = false := bne_eq_false_iff_eq.mpr c9
                  clear c9
                  (first | rw [c9b0] | (simp only [i64_w, i32_w]; rw [c9b0]) | skip)
                  by_cases c10 : ((rd_T59 l0 x4_1).f0) = 0
                  · rw [if_pos c10] at H
                    have c10b0 : (((rd_T59 l0 x4_1).f0) == 0) = true := beq_iff_eq.mpr c10
                    have c10b1 : (((rd_T59 l0 x4_1).f0) != 0) = false := bne_eq_false_iff_eq.mpr c10
                    clear c10
                    have H' := Aside0.mk H
                    clear H
                    have p76003 : 0 ≤ (x4_1 : Int) := of_decide_eq_true (by first | (with_reducible assumption) | assumption)
                    have q76003 : x4_1 < (l0.length : Int) := of_decide_eq_true (by first | (with_reducible assumption) | assumption)
                    obtain ⟨ad76003, A76003_5, c76003_5, e76003, hx76003_0, hx76003_1, hx76003_2, hx76003_3, hx76003_4, hx76003_5, hl76003_5, hi76003_5⟩ := at_T59 (Kd.V_reads' HO_0.out).2.2 x4_1 p76003 q76003
                    obtain rfl : ad76001 = ad76003 := (by injection e76003)
                    obtain ⟨ce76003, hce76003, hMe76003, hcc76003⟩ := Kd.V_get HO_0.out z59 x4_1 p76003 (by first | exact q76003 | exact of_decide_eq_true (by first | (with_reducible assumption) | assumption) | (have e_ := (Kd.V_reads' HO_0.out).1; omega))
                    obtain ⟨ua76003_5, uc76003_5, rfl, ul76003_5, ge76003_5⟩ := k59_openF hMe76003
                    have hv76003_5 := hcc76003 5 _ rfl
                    rw [add_field _ _ 5 (by omega)] at hv76003_5
                    replace hv76003_5 := Option.some.inj (hv76003_5.symm.trans hx76003_5)
                    injection hv76003_5 with hva_ hvn_ hvc_
                    rw [hva_] at ge76003_5
                    rw [hvc_] at ul76003_5
                    have HL76003_5 := Aside0.mk (show Kd.V (Kd.int .i64) 3 _ w.heap.size _ _ ((rd_T59 l0 x4_1).f2) from Kd.V_mk ul76003_5 ge76003_5)
                    clear hva_ hvn_ hvc_ ge76003_5 ul76003_5
                    clear hcc76003 hce76003
                    have HR76003_5 := Aside0.mk hi76003_5
                    have HC76003_5 := Aside0.mk hl76003_5
                    clear hi76003_5 hl76003_5
                    replace p76003 := eq_true p76003
                    replace q76003 := eq_true q76003
                    go_wp2
                    go_meet
                    case rel => exact ⟨_, (true), (by first | rfl | (simp; done) | (simp [*]; done)), (by first | rfl | (simp; done) | (simp [*]; done)), H', ⟨by have := HK1.out; first | omega | exact Nat.le_refl _⟩, ⟨by (with_reducible repeat (first | apply Kd.V_alloc | apply Kd.V_drewN | apply Kd.V_drew)); exact HO_0.out⟩, ⟨by repeat (first | (with_reducible exact HR76001_5.out) | (with_reducible refine Kd.C_alloc ?_ _) | (with_reducible refine Kd.C_drewN ?_ _) | (with_reducible refine Kd.C_drew ?_) | exact HR76001_5.out)⟩, ⟨by repeat (first | (with_reducible exact HR76002_5.out) | (with_reducible refine Kd.C_alloc ?_ _) | (with_reducible refine Kd.C_drewN ?_ _) | (with_reducible refine Kd.C_drew ?_) | exact HR76002_5.out)⟩, ⟨by repeat (first | (with_reducible first | exact HB.out | apply below_alloc | apply pw_below_drewN | apply below_drew1) | exact HB.out)⟩⟩
                  · rw [if_neg c10] at H
                    have c10b0 : (((rd_T59 l0 x4_1).f0) == 0) = false := beq_eq_false_iff_ne.mpr c10
                    have c10b1 : (((rd_T59 l0 x4_1).f0) != 0) = true := bne_iff_ne.mpr c10
                    have H' := Aside0.mk H
                    clear H
                    have p76003 : 0 ≤ (x4_1 : Int) := of_decide_eq_true (by first | (with_reducible assumption) | assumption)
                    have q76003 : x4_1 < (l0.length : Int) := of_decide_eq_true (by first | (with_reducible assumption) | assumption)
                    obtain ⟨ad76003, A76003_5, c76003_5, e76003, hx76003_0, hx76003_1, hx76003_2, hx76003_3, hx76003_4, hx76003_5, hl76003_5, hi76003_5⟩ := at_T59 (Kd.V_reads' HO_0.out).2.2 x4_1 p76003 q76003
                    obtain rfl : ad76001 = ad76003 := (by injection e76003)
                    obtain ⟨ce76003, hce76003, hMe76003, hcc76003⟩ := Kd.V_get HO_0.out z59 x4_1 p76003 (by first | exact q76003 | exact of_decide_eq_true (by first | (with_reducible assumption) | assumption) | (have e_ := (Kd.V_reads' HO_0.out).1; omega))
                    obtain ⟨ua76003_5, uc76003_5, rfl, ul76003_5, ge76003_5⟩ := k59_openF hMe76003
                    have hv76003_5 := hcc76003 5 _ rfl
                    rw [add_field _ _ 5 (by omega)] at hv76003_5
                    replace hv76003_5 := Option.some.inj (hv76003_5.symm.trans hx76003_5)
                    injection hv76003_5 with hva_ hvn_ hvc_
                    rw [hva_] at ge76003_5
                    rw [hvc_] at ul76003_5
                    have HL76003_5 := Aside0.mk (show Kd.V (Kd.int .i64) 3 _ w.heap.size _ _ ((rd_T59 l0 x4_1).f2) from Kd.V_mk ul76003_5 ge76003_5)
                    clear hva_ hvn_ hvc_ ge76003_5 ul76003_5
                    clear hcc76003 hce76003
                    have HR76003_5 := Aside0.mk hi76003_5
                    have HC76003_5 := Aside0.mk hl76003_5
                    clear hi76003_5 hl76003_5
                    replace p76003 := eq_true p76003
                    replace q76003 := eq_true q76003
                    have p76004 : 0 ≤ (x4_1 : Int) := of_decide_eq_true (by first | (with_reducible assumption) | assumption)
                    have q76004 : x4_1 < (l0.length : Int) := of_decide_eq_true (by first | (with_reducible assumption) | assumption)
                    obtain ⟨ad76004, A76004_5, c76004_5, e76004, hx76004_0, hx76004_1, hx76004_2, hx76004_3, hx76004_4, hx76004_5, hl76004_5, hi76004_5⟩ := at_T59 (Kd.V_reads' HO_0.out).2.2 x4_1 p76004 q76004
                    obtain rfl : ad76001 = ad76004 := (by injection e76004)
                    obtain ⟨ce76004, hce76004, hMe76004, hcc76004⟩ := Kd.V_get HO_0.out z59 x4_1 p76004 (by first | exact q76004 | exact of_decide_eq_true (by first | (with_reducible assumption) | assumption) | (have e_ := (Kd.V_reads' HO_0.out).1; omega))
                    obtain ⟨ua76004_5, uc76004_5, rfl, ul76004_5, ge76004_5⟩ := k59_openF hMe76004
                    have hv76004_5 := hcc76004 5 _ rfl
                    rw [add_field _ _ 5 (by omega)] at hv76004_5
                    replace hv76004_5 := Option.some.inj (hv76004_5.symm.trans hx76004_5)
                    injection hv76004_5 with hva_ hvn_ hvc_
                    rw [hva_] at ge76004_5
                    rw [hvc_] at ul76004_5
                    have HL76004_5 := Aside0.mk (show Kd.V (Kd.int .i64) 3 _ w.heap.size _ _ ((rd_T59 l0 x4_1).f2) from Kd.V_mk ul76004_5 ge76004_5)
                    clear hva_ hvn_ hvc_ ge76004_5 ul76004_5
                    clear hcc76004 hce76004
                    have HR76004_5 := Aside0.mk hi76004_5
                    have HC76004_5 := Aside0.mk hl76004_5
                    clear hi76004_5 hl76004_5
                    replace p76004 := eq_true p76004
                    replace q76004 := eq_true q76004
                    have ea_ := Option.some.inj (hx76003_5.symm.trans hx76004_5)
                    injection ea_ with ea_ en_ ec_
                    subst ea_
                    subst ec_
                    clear en_
                    go_wp2
                    go_meet
                    case rel => exact ⟨_, ((((rd_T59 l0 x4_1).f0) == 2)), (by first | rfl | (simp; done) | (simp [*]; done)), (by first | rfl | (simp; done) | (simp [*]; done)), H', ⟨by have := HK1.out; first | omega | exact Nat.le_refl _⟩, ⟨by (with_reducible repeat (first | apply Kd.V_alloc | apply Kd.V_drewN | apply Kd.V_drew)); exact HO_0.out⟩, ⟨by repeat (first | (with_reducible exact HR76001_5.out) | (with_reducible refine Kd.C_alloc ?_ _) | (with_reducible refine Kd.C_drewN ?_ _) | (with_reducible refine Kd.C_drew ?_) | exact HR76001_5.out)⟩, ⟨by repeat (first | (with_reducible exact HR76002_5.out) | (with_reducible refine Kd.C_alloc ?_ _) | (with_reducible refine Kd.C_drewN ?_ _) | (with_reducible refine Kd.C_drew ?_) | exact HR76002_5.out)⟩, ⟨by repeat (first | (with_reducible first | exact HB.out | apply below_alloc | apply pw_below_drewN | apply below_drew1) | exact HB.out)⟩⟩
                · rw [if_neg c9] at H
                  have c9b0 : (((rd_T59 l0 x4_1).f0) == ((rd_T59 l0 (ji5)).f0)) = false := beq_eq_false_iff_ne.mpr c9
                  have c9b1 : (((rd_T59 l0 x4_1).f0) != ((rd_T59 l0 (ji5)).f0)) = true := bne_iff_ne.mpr c9
                  (first | rw [c9b0] | (simp only [i64_w, i32_w]; rw [c9b0]) | skip)
                  have H' := Aside0.mk H
                  clear H
                  go_wp2
                  go_meet
                  case rel => exact ⟨_, (false), (by first | rfl | (simp; done) | (simp [*]; done)), (by first | rfl | (simp; done) | (simp [*]; done)), H', ⟨by have := HK1.out; first | omega | exact Nat.le_refl _⟩, ⟨by (with_reducible repeat (first | apply Kd.V_alloc | apply Kd.V_drewN | apply Kd.V_drew)); exact HO_0.out⟩, ⟨by repeat (first | (with_reducible exact HR76001_5.out) | (with_reducible refine Kd.C_alloc ?_ _) | (with_reducible refine Kd.C_drewN ?_ _) | (with_reducible refine Kd.C_drew ?_) | exact HR76001_5.out)⟩, ⟨by repeat (first | (with_reducible exact HR76002_5.out) | (with_reducible refine Kd.C_alloc ?_ _) | (with_reducible refine Kd.C_drewN ?_ _) | (with_reducible refine Kd.C_drew ?_) | exact HR76002_5.out)⟩, ⟨by repeat (first | (with_reducible first | exact HB.out | apply below_alloc | apply pw_below_drewN | apply below_drew1) | exact HB.out)⟩⟩
              case rest =>
                clear HC7
                try clear c1
                try clear c2
                try clear c2b0
                try clear p2
                try clear c3
                try clear c3b0
                try clear c4
                try clear c4b0
                try clear c6
                try clear c6b0
                try clear p6
                try clear c7
                try clear p7
                try clear q7
                try clear hx7
                try clear c9
                try clear c9b0
                try clear c9b1
                try clear c10
                try clear c10b0
                try clear c10b1
                try clear hx76001_0
                try clear hx76001_1
                try clear hx76001_2
                try clear hx76001_3
                try clear hx76001_4
                try clear hx76001_5
                try clear hx76002_0
                try clear hx76002_1
                try clear hx76002_2
                try clear hx76002_3
                try clear hx76002_4
                try clear hx76002_5
                try clear hx76003_0
                try clear hx76003_1
                try clear hx76003_2
                try clear hx76003_3
                try clear hx76003_4
                try clear hx76003_5
                try clear hx76004_0
                try clear hx76004_1
                try clear hx76004_2
                try clear hx76004_3
                try clear hx76004_4
                try clear hx76004_5
                try clear p76001
                try clear p76002
                try clear p76003
                try clear p76004
                try clear q76001
                try clear q76002
                try clear q76003
                try clear q76004
                obtain ⟨kq, x41_6, rfl, rfl, HA, HJ6, HO_0, HR76001_5, HR76002_5, HB⟩ := hcut
                cases kq with
                | zero => exact absurd HA.out (by simp [spec_simpler.j1])
                | succ kj6 =>
                  have H := HA.out
                  clear HA
                  simp only [spec_simpler.j1] at H
                  by_cases c11 : x41_6 = true
                  · subst c11
                    have H1 : ((some (([] : List (S59)) : List (S59))).bind fun y76005 => (if 0 ≤ x4_1 then (if x4_1 ≤ (l0.length : Int) then ((some (l0.take (x4_1 : Int).toNat : List (S59))).bind fun y76008 => (if y76005.length + y76008.length < 2199023255552 then ((some (y76005 ++ y76008 : List (S59))).bind fun y76013 => (if 0 ≤ (wrap64 (x4_1 + 2)) then (if (wrap64 (x4_1 + 2)) ≤ (l0.length : Int) then ((some (l0.drop ((wrap64 (x4_1 + 2)) : Int).toNat : List (S59))).bind fun y76016 => (if y76013.length + y76016.length < 2199023255552 then (some ((y76013 ++ y76016), true)) else (none))) else (none)) else (none))) else (none))) else (none)) else (none))) = some (r1, r2) := by rw [if_pos rfl] at H; exact H
                    clear H
                    have H := H1
                    clear H1
                    obtain ⟨y76005, hy76005⟩ : ∃ y_ : List (S59), y_ = (([] : List (S59))) := ⟨_, rfl⟩
                    replace H : (if 0 ≤ x4_1 then (if x4_1 ≤ (l0.length : Int) then ((some (l0.take (x4_1 : Int).toNat : List (S59))).bind fun y76008 => (if y76005.length + y76008.length < 2199023255552 then ((some (y76005 ++ y76008 : List (S59))).bind fun y76013 => (if 0 ≤ (wrap64 (x4_1 + 2)) then (if (wrap64 (x4_1 + 2)) ≤ (l0.length : Int) then ((some (l0.drop ((wrap64 (x4_1 + 2)) : Int).toNat : List (S59))).bind fun y76016 => (if y76013.length + y76016.length < 2199023255552 then (some ((y76013 ++ y76016), true)) else (none))) else (none)) else (none))) else (none))) else (none)) else (none)) = some (r1, r2) := by first | (rw [hy76005]; with_reducible exact H) | (have H2_ := (Option.bind_some _ _).symm.trans H; rw [hy76005]; with_reducible exact H2_) | (have H2_ := (Option.bind_some _ _).symm.trans H; with_reducible exact H2_) | with_reducible exact H | (rw [hy76005]; exact H) | exact H
                    have Ny76005 := Aside0.mk hy76005
                    clear hy76005
                    by_cases c12 : 0 ≤ x4_1
                    · rw [if_pos c12] at H
                      have c12b0 := eq_true c12
                      have c12b1 : decide (0 ≤ x4_1) = true := decide_eq_true c12
                      clear c12
                      by_cases c13 : x4_1 ≤ (l0.length : Int)
                      · rw [if_pos c13] at H
                        have c13b0 := eq_true c13
                        have c13b1 : decide (x4_1 ≤ (l0.length : Int)) = true := decide_eq_true c13
                        clear c13
                        obtain ⟨y76008, hy76008⟩ : ∃ y_ : List (S59), y_ = (l0.take (x4_1 : Int).toNat) := ⟨_, rfl⟩
                        replace H : (if y76005.length + y76008.length < 2199023255552 then ((some (y76005 ++ y76008 : List (S59))).bind fun y76013 => (if 0 ≤ (wrap64 (x4_1 + 2)) then (if (wrap64 (x4_1 + 2)) ≤ (l0.length : Int) then ((some (l0.drop ((wrap64 (x4_1 + 2)) : Int).toNat : List (S59))).bind fun y76016 => (if y76013.length + y76016.length < 2199023255552 then (some ((y76013 ++ y76016), true)) else (none))) else (none)) else (none))) else (none)) = some (r1, r2) := by first | (rw [hy76008]; with_reducible exact H) | (have H2_ := (Option.bind_some _ _).symm.trans H; rw [hy76008]; with_reducible exact H2_) | (have H2_ := (Option.bind_some _ _).symm.trans H; with_reducible exact H2_) | with_reducible exact H | (rw [hy76008]; exact H) | exact H
                        have Ny76008 := Aside0.mk hy76008
                        clear hy76008
                        by_cases c14 : y76005.length + y76008.length < 2199023255552
                        · rw [if_pos c14] at H
                          have LMc14 := Aside0.mk c14
                          clear c14
                          obtain ⟨y76013, hy76013⟩ : ∃ y_ : List (S59), y_ = (y76005 ++ y76008) := ⟨_, rfl⟩
                          replace H : (if 0 ≤ (wrap64 (x4_1 + 2)) then (if (wrap64 (x4_1 + 2)) ≤ (l0.length : Int) then ((some (l0.drop ((wrap64 (x4_1 + 2)) : Int).toNat : List (S59))).bind fun y76016 => (if y76013.length + y76016.length < 2199023255552 then (some ((y76013 ++ y76016), true)) else (none))) else (none)) else (none)) = some (r1, r2) := by first | (rw [hy76013]; with_reducible exact H) | (have H2_ := (Option.bind_some _ _).symm.trans H; rw [hy76013]; with_reducible exact H2_) | (have H2_ := (Option.bind_some _ _).symm.trans H; with_reducible exact H2_) | with_reducible exact H | (rw [hy76013]; exact H) | exact H
                          have Ny76013 := Aside0.mk hy76013
                          clear hy76013
                          obtain ⟨ji15, hji15⟩ : ∃ j_ : Int, (wrap64 (x4_1 + 2)) = j_ := ⟨_, rfl⟩
                          replace H : (if 0 ≤ (ji15) then (if (ji15) ≤ (l0.length : Int) then ((some (l0.drop ((ji15) : Int).toNat : List (S59))).bind fun y76016 => (if y76013.length + y76016.length < 2199023255552 then (some ((y76013 ++ y76016), true)) else (none))) else (none)) else (none)) = some (r1, r2) := by first | (rw [hji15] at H; exact H) | (simp only [hji15] at H ⊢; exact H)
                          have hji15w : (IntKind.i64.wrap (x4_1 + 2)) = ji15 := (i64_w _).trans hji15
                          by_cases c16 : 0 ≤ (ji15)
                          · rw [if_pos c16] at H
                            have c16b0 := eq_true c16
                            have c16b1 : decide (0 ≤ (ji15)) = true := decide_eq_true c16
                            clear c16
                            by_cases c17 : (ji15) ≤ (l0.length : Int)
                            · rw [if_pos c17] at H
                              have c17b0 := eq_true c17
                              have c17b1 : decide ((ji15) ≤ (l0.length : Int)) = true := decide_eq_true c17
                              clear c17
                              obtain ⟨y76016, hy76016⟩ : ∃ y_ : List (S59), y_ = (l0.drop ((ji15) : Int).toNat) := ⟨_, rfl⟩
                              replace H : (if y76013.length + y76016.length < 2199023255552 then (some ((y76013 ++ y76016), true)) else (none)) = some (r1, r2) := by first | (rw [hy76016]; with_reducible exact H) | (have H2_ := (Option.bind_some _ _).symm.trans H; rw [hy76016]; with_reducible exact H2_) | (have H2_ := (Option.bind_some _ _).symm.trans H; with_reducible exact H2_) | with_reducible exact H | (rw [hy76016]; exact H) | exact H
                              have Ny76016 := Aside0.mk hy76016
                              clear hy76016
                              by_cases c18 : y76013.length + y76016.length < 2199023255552
                              · rw [if_pos c18] at H
                                have LMc18 := Aside0.mk c18
                                clear c18
                                obtain ⟨y76021, hy76021⟩ : ∃ y_ : List (S59), y_ = (y76013 ++ y76016) := ⟨_, rfl⟩
                                replace H : (some (y76021, true)) = some (r1, r2) := by first | (rw [hy76021]; with_reducible exact H) | (have H2_ := (Option.bind_some _ _).symm.trans H; rw [hy76021]; with_reducible exact H2_) | (have H2_ := (Option.bind_some _ _).symm.trans H; with_reducible exact H2_) | with_reducible exact H | (rw [hy76021]; exact H) | exact H
                                have Ny76021 := Aside0.mk hy76021
                                clear hy76021
                                simp only [Option.some.injEq, Prod.mk.injEq] at H
                                obtain ⟨rfl, rfl⟩ := H
                                try go_wp2
                                have n0_ := Aside0.mk (Kd.V_drew HO_0.out)
                                have n1_ := Aside0.mk (Kd.C_drew HR76001_5.out)
                                have n2_ := Aside0.mk (Kd.C_drew HR76002_5.out)
                                have n3_ := Aside0.mk (below_drew1 HB.out)
                                clear HO_0
                                clear HR76001_5
                                clear HR76002_5
                                clear HB
                                have HO_0 := n0_
                                have HR76001_5 := n1_
                                have HR76002_5 := n2_
                                have HB := n3_
                                clear n0_ n1_ n2_ n3_
                                have q20 : (x4_1 : Int) ≤ ((l0.length : Int) : Int) := of_decide_eq_true (by first | (with_reducible assumption) | assumption)
                                obtain ⟨i020, hi020, _, hsz20, _⟩ := info_parts info59
                                have hroom20 : l0.length ≤ c0 := (Kd.V_reads' HO_0.out).2.1
                                have hC20 : Kd.F k59 _ _ (some ad76001) l0.length l0 := (Kd.V_at (base := w.heap.size) HO_0.out).2.2
                                have hcut20 := cut_to (P := Try.prog) 53 59 .i64 Try.underlying53 hi020 (some ad76001) l0.length c0 x4_1 (of_decide_eq_true (by first | (with_reducible assumption) | assumption)) q20 hroom20
                                have hr20 := Kd.F_take (m := (x4_1 : Int).toNat) hC20 (by omega)
                                have hy20 : y76008.length = (x4_1 : Int).toNat := (by rw [Ny76008.out, List.length_take]; omega)
                                rw [← Ny76008.out] at hr20
                                rw [← hy20] at hcut20
                                have HO76012 := Aside0.mk (show Kd.V k59 59 _ w.heap.size _ (.slice (some ad76001) y76008.length c0) y76008 from Kd.V_mk (by omega) hr20)
                                have HC76012 := Aside0.mk (show y76008.length ≤ c0 from by omega)
                                clear hr20 hC20 hroom20 hi020 hsz20
                                have KY20 := Aside0.mk hy20
                                clear hy20
                                replace q20 := eq_true q20
                                have q21 : ((ji15) : Int) ≤ ((l0.length : Int) : Int) := of_decide_eq_true (by first | (with_reducible assumption) | assumption)
                                obtain ⟨i021, hi021, _, hsz21, _⟩ := info_parts info59
                                have hroom21 : l0.length ≤ c0 := (Kd.V_reads' HO_0.out).2.1
                                have hC21 : Kd.F k59 _ _ (some ad76001) l0.length l0 := (Kd.V_at (base := w.heap.size) HO_0.out).2.2
                                have q021 : (0 : Int) ≤ ((ji15) : Int) := of_decide_eq_true (by first | (with_reducible assumption) | assumption)
                                have hcut21 := cut_from (P := Try.prog) 53 59 .i64 Try.underlying53 hi021 6 hsz21 (some ad76001) l0.length c0 (ji15) q021 q21
                                have hr21 := Kd.F_cut (m := ((ji15) : Int).toNat) (c := c0) hC21 (by omega) hroom21
                                obtain ⟨A21, hA21⟩ : ∃ A1, A1 = (if c0 = ((ji15) : Int).toNat then (some ad76001) else ((some ad76001) : Option Addr).map (·.add (((ji15) : Int).toNat * 6))) := ⟨_, rfl⟩
                                obtain ⟨c21, hc21⟩ : ∃ c1, c1 = c0 - ((ji15) : Int).toNat := ⟨_, rfl⟩
                                have hy21 : y76016.length = l0.length - ((ji15) : Int).toNat := (by rw [Ny76016.out, List.length_drop] <;> omega)
                                rw [show (l0).drop ((ji15) : Int).toNat = y76016 from Ny76016.out.symm] at hr21
                                replace hr21 : Kd.F k59 _ _ A21 y76016.length y76016 := (by rw [hA21]; exact hr21)
                                rw [← hy21, ← hA21, ← hc21] at hcut21
                                have HO76020 := Aside0.mk (show Kd.V k59 59 _ w.heap.size _ (.slice A21 y76016.length c21) y76016 from Kd.V_mk (by rw [hy21, hc21]; exact Nat.sub_le_sub_right hroom21 _) hr21)
                                have HC76020 := Aside0.mk (show y76016.length ≤ c21 from by rw [hy21, hc21]; exact Nat.sub_le_sub_right hroom21 _)
                                clear hr21 hC21 hroom21 hi021 hsz21 hc21
                                have KY21 := Aside0.mk hy21
                                have KA21 := Aside0.mk hA21
                                clear hy21 hA21
                                replace q21 := eq_true q21
                                refine start_ (n := 12) (S := fun w' => True) (ds := []) #[false, false, false, false, false, false, false, false, false, false, false, false] (by kernel_rfl) rfl rfl trivial (fun hHeld => ?_); refine with_tabW spec_simpler.tab6 spec_simpler.bits6 (fun HT_ HW_ => ?_)
                                generalize wc.drew = w19 at HO_0 HR76001_5 HR76002_5 HB HO76012 HO76020 hHeld ⊢
                                refine pure_ (i := 1) (N := some 43) (v := ?_) (a' := ?_) #[false, true, false, false, false, false, false, false, false, false, false, false] rfl rfl (any_of HT_.out (by kernel_rfl)) (fun _ _ _ h => h) (Or.inl ⟨by rfl, ?_⟩) ?_ ?_
                                rotate_left
                                · intro w'
                                  go_simp
                                  with_reducible rfl
                                rotate_left
                                · simp only [Act.put, List.setIfInBounds_toArray, List.set_cons_zero, List.set_cons_succ, i64_w, i32_w]
                                  rfl
                                refine pure_ (i := 2) (N := some 44) (v := ?_) (a' := ?_) #[false, true, true, false, false, false, false, false, false, false, false, false] rfl rfl (any_of HT_.out (by kernel_rfl)) (fun _ _ _ h => h) (Or.inl ⟨by rfl, ?_⟩) ?_ ?_
                                rotate_left
                                · intro w'
                                  go_simp
                                  with_reducible rfl
                                rotate_left
                                · simp only [Act.put, List.setIfInBounds_toArray, List.set_cons_zero, List.set_cons_succ, i64_w, i32_w]
                                  rfl
                                refine pure_ (i := 3) (N := some 45) (v := ?_) (a' := ?_) #[false, true, true, true, false, false, false, false, false, false, false, false] rfl rfl (any_of HT_.out (by kernel_rfl)) (fun _ _ _ h => h) (Or.inl ⟨by rfl, ?_⟩) ?_ ?_
                                rotate_left
                                · intro w'
                                  go_simp
                                  with_reducible rfl
                                rotate_left
                                · simp only [Act.put, List.setIfInBounds_toArray, List.set_cons_zero, List.set_cons_succ, i64_w, i32_w]
                                  rfl
                                refine pure_ (i := 5) (N := some 47) (v := ?_) (a' := ?_) #[false, true, true, true, false, true, false, false, false, false, false, false] rfl rfl (any_of HT_.out (by kernel_rfl)) (fun _ _ _ h => h) (Or.inl ⟨by rfl, ?_⟩) ?_ ?_
                                rotate_left
                                · intro w'
                                  go_simp
                                  with_reducible rfl
                                rotate_left
                                · simp only [Act.put, List.setIfInBounds_toArray, List.set_cons_zero, List.set_cons_succ, i64_w, i32_w]
                                  rfl
                                refine pure_ (i := 6) (N := some 48) (v := ?_) (a' := ?_) #[false, true, true, true, false, true, true, false, false, false, false, false] rfl rfl (any_of HT_.out (by kernel_rfl)) (fun _ _ _ h => h) (Or.inl ⟨by rfl, ?_⟩) ?_ ?_
                                rotate_left
                                · intro w'
                                  go_simp
                                  with_reducible rfl
                                rotate_left
                                · simp only [Act.put, List.setIfInBounds_toArray, List.set_cons_zero, List.set_cons_succ, i64_w, i32_w]
                                  rfl
                                refine pure_ (i := 7) (N := some 49) (v := ?_) (a' := ?_) #[false, true, true, true, false, true, true, true, false, false, false, false] rfl rfl (any_of HT_.out (by kernel_rfl)) (fun _ _ _ h => h) (Or.inl ⟨by rfl, ?_⟩) ?_ ?_
                                rotate_left
                                · intro w'
                                  go_simp
                                  with_reducible rfl
                                rotate_left
                                · simp only [Act.put, List.setIfInBounds_toArray, List.set_cons_zero, List.set_cons_succ, i64_w, i32_w]
                                  rfl
                                refine pure_ (i := 8) (N := some 50) (v := ?_) (a' := ?_) #[false, true, true, true, false, true, true, true, true, false, false, false] rfl rfl (any_of HT_.out (by kernel_rfl)) (fun _ _ _ h => h) (Or.inl ⟨by rfl, ?_⟩) ?_ ?_
                                rotate_left
                                · intro w'
                                  go_simp
                                  with_reducible rfl
                                rotate_left
                                · simp only [Act.put, List.setIfInBounds_toArray, List.set_cons_zero, List.set_cons_succ, i64_w, i32_w]
                                  rfl
                                refine one_ (i := 0) (N := some 42) #[true, true, true, true, false, true, true, true, true, false, false, false] rfl rfl (one_of HT_.out (by kernel_rfl)) (by decide) (fun K hK => ?_)
                                refine Kd.N_lit_step k59 _ 59 ?hg (N' := 42) ?hd (xs := ([] : List (S59))) (inner := []) (ok := (fun k_ => (P0_ k_ ∨ w.heap.size ≤ k_))) (okp := (fun k_ => (P0_ k_ ∨ w.heap.size ≤ k_))) ?hr ?hp (fun _ hk => hk) ((show ∀ k_, w19.heap.size ≤ k_ → (fun k_ => (P0_ k_ ∨ w.heap.size ≤ k_)) k_ from fun k_ hk => (.inr (Nat.le_trans (below_size (by repeat (first | (with_reducible first | exact HB.out | apply below_alloc | apply pw_below_drewN | apply below_drew1) | exact HB.out))) hk))) _ (Nat.le_refl _)) (Below.refl _ _) (Nat.le_refl _) (by simp) ?_; (case hd => rfl); (case hg => rfl); (case hr => first | (go_simp; done) | (go_simp; rfl)); (case hp => exact (Reps.none _ _))
                                intro v76006 w22 ho23 hb hg_ hnew_
                                clear hg_ hnew_
                                (first | rw [← Ny76005.out] at ho23 | (simp only [Int.reduceToNat] at ho23; rw [← Ny76005.out] at ho23))
                                have n0_ := Aside0.mk (Kd.V_elder' (by (with_reducible repeat (first | apply Kd.V_alloc | apply Kd.V_drewN | apply Kd.V_drew)); exact HO_0.out) (Kd.N_base ho23) hb)
                                have n1_ := Aside0.mk (Kd.V_elder' (by (with_reducible repeat (first | apply Kd.V_alloc | apply Kd.V_drewN | apply Kd.V_drew)); exact HO76012.out) (Kd.N_base ho23) hb)
                                have n2_ := Aside0.mk (Kd.V_elder' (by (with_reducible repeat (first | apply Kd.V_alloc | apply Kd.V_drewN | apply Kd.V_drew)); exact HO76020.out) (Kd.N_base ho23) hb)
                                have n3_ := Aside0.mk (Kd.N_lower ho23 (below_size (by repeat (first | (with_reducible first | exact HB.out | apply below_alloc | apply pw_below_drewN | apply below_drew1) | exact HB.out))))
                                have n4_ := Aside0.mk (Kd.C_below (by repeat (first | (with_reducible exact HR76001_5.out) | (with_reducible refine Kd.C_alloc ?_ _) | (with_reducible refine Kd.C_drewN ?_ _) | (with_reducible refine Kd.C_drew ?_) | exact HR76001_5.out)) hb)
                                have n5_ := Aside0.mk (Kd.C_below (by repeat (first | (with_reducible exact HR76002_5.out) | (with_reducible refine Kd.C_alloc ?_ _) | (with_reducible refine Kd.C_drewN ?_ _) | (with_reducible refine Kd.C_drew ?_) | exact HR76002_5.out)) hb)
                                have n6_ := Aside0.mk (below_step (by repeat (first | (with_reducible first | exact HB.out | apply below_alloc | apply pw_below_drewN | apply below_drew1) | exact HB.out)) hb)
                                clear HO_0
                                clear HO76012
                                clear HO76020
                                clear HR76001_5
                                clear HR76002_5
                                clear HB
                                have HO_0 := n0_
                                have HO76012 := n1_
                                have HO76020 := n2_
                                have HO76007 := n3_
                                have HR76001_5 := n4_
                                have HR76002_5 := n5_
                                have HB := n6_
                                clear n0_ n1_ n2_ n3_ n4_ n5_ n6_
                                clear hb ho23
                                refine hK.out _ _ trivial (fun hHeld => ?_)
                                clear hK K
                                refine norm_ (a' := ?_) ?_ ?_
                                rotate_left
                                · show Act.put _ (some 42) _ = _
                                  simp only [Act.put, List.setIfInBounds_toArray, List.set_cons_zero, List.set_cons_succ, i64_w, i32_w]
                                  rfl
                                refine one_ (i := 4) (N := some 46) #[true, true, true, true, true, true, true, true, true, false, false, false] rfl rfl (one_of HT_.out (by kernel_rfl)) (by decide) (fun K hK => ?_)
                                refine Kd.N_append_rows_step k59 (w0 := w) w.heap.size (by rfl) (.tmp 42) (.tmp 45) 53 59 (.agg #[(.int .i64 0), (.int .i64 0), (.int .i64 0), (.int .i64 0), (.int .i64 0), (.slice none 0 0)]) 64 rfl Try.underlying53 info59 rfl (by decide) (by omega) v76006 y76005 y76008 _ _ _ (fun k_ => (P0_ k_ ∨ w.heap.size ≤ k_)) (fun k_ => ((fun k_ => (P0_ k_ ∨ w.heap.size ≤ k_))) k_ ∧ some k_ ≠ (v76006 : Value).ownBlock) rfl rfl ?aO ?aR (fun _ hk => hk) ?aF ?aB ?aS ?aL ?_
                                (case aR => exact (by skip; exact Kd.V_F (Kd.V_mono (ok' := (fun k_ => ((fun k_ => (P0_ k_ ∨ w.heap.size ≤ k_))) k_ ∧ some k_ ≠ (v76006 : Value).ownBlock)) (HO76012.out) (fun k_ hk => ⟨hk.1, hk.2⟩))))
                                (case aB => exact (by repeat (first | (with_reducible first | exact HB.out | apply below_alloc | apply pw_below_drewN | apply below_drew1) | exact HB.out)))
                                (case aF => exact (fun k_ hk => (.inr (Nat.le_trans (below_size (by repeat (first | (with_reducible first | exact HB.out | apply below_alloc | apply pw_below_drewN | apply below_drew1) | exact HB.out))) hk))))
                                (case aO => exact (by (with_reducible repeat (first | apply Kd.N_alloc | apply Kd.N_drewN | apply Kd.N_drew)); exact HO76007.out))
                                (case aS => exact (below_size (by repeat (first | (with_reducible first | exact HB.out | apply below_alloc | apply pw_below_drewN | apply below_drew1) | exact HB.out))))
                                (case aL => have := LMc14.out; omega)
                                intro v76014 w24 ho hb hg hat
                                rw [← Ny76013.out] at ho
                                have n0_ := Aside0.mk (Kd.V_afterv (ok := (fun k_ => (P0_ k_ ∨ w.heap.size ≤ k_))) (by (with_reducible repeat (first | apply Kd.V_alloc | apply Kd.V_drewN | apply Kd.V_drew)); exact HO_0.out) hg hat)
                                have n1_ := Aside0.mk (Kd.V_afterv (ok := (fun k_ => (P0_ k_ ∨ w.heap.size ≤ k_))) (by (with_reducible repeat (first | apply Kd.V_alloc | apply Kd.V_drewN | apply Kd.V_drew)); exact HO76012.out) hg hat)
                                have n2_ := Aside0.mk (Kd.V_afterv (ok := (fun k_ => (P0_ k_ ∨ w.heap.size ≤ k_))) (by (with_reducible repeat (first | apply Kd.V_alloc | apply Kd.V_drewN | apply Kd.V_drew)); exact HO76020.out) hg hat)
                                have n3_ := Aside0.mk (hb)
                                have n4_ := Aside0.mk (ho)
                                clear HO_0
                                clear HO76012
                                clear HO76020
                                clear HB
                                clear HO76007
                                have HO_0 := n0_
                                have HO76012 := n1_
                                have HO76020 := n2_
                                have HB := n3_
                                have HO76015 := n4_
                                clear n0_ n1_ n2_ n3_ n4_
                                clear ho hb hg hat
                                refine hK.out _ _ trivial (fun hHeld => ?_)
                                clear hK K
                                refine norm_ (a' := ?_) ?_ ?_
                                rotate_left
                                · show Act.put _ (some 46) _ = _
                                  simp only [Act.put, List.setIfInBounds_toArray, List.set_cons_zero, List.set_cons_succ, i64_w, i32_w]
                                  rfl
                                refine one_ (i := 9) (N := some 51) #[true, true, true, true, true, true, true, true, true, true, false, false] rfl rfl (one_of HT_.out (by kernel_rfl)) (by decide) (fun K hK => ?_)
                                refine Kd.N_append_rows_step k59 (w0 := w) w.heap.size (by rfl) (.tmp 46) (.tmp 50) 53 59 (.agg #[(.int .i64 0), (.int .i64 0), (.int .i64 0), (.int .i64 0), (.int .i64 0), (.slice none 0 0)]) 64 rfl Try.underlying53 info59 rfl (by decide) (by omega) v76014 y76013 y76016 _ _ _ (fun k_ => (P0_ k_ ∨ w.heap.size ≤ k_)) (fun k_ => ((fun k_ => (P0_ k_ ∨ w.heap.size ≤ k_))) k_ ∧ some k_ ≠ (v76014 : Value).ownBlock) rfl rfl ?aO ?aR (fun _ hk => hk) ?aF ?aB ?aS ?aL ?_
                                (case aR => exact (by skip; exact Kd.V_F (Kd.V_mono (ok' := (fun k_ => ((fun k_ => (P0_ k_ ∨ w.heap.size ≤ k_))) k_ ∧ some k_ ≠ (v76014 : Value).ownBlock)) (HO76020.out) (fun k_ hk => ⟨hk.1, hk.2⟩))))
                                (case aB => exact (by repeat (first | (with_reducible first | exact HB.out | apply below_alloc | apply pw_below_drewN | apply below_drew1) | exact HB.out)))
                                (case aF => exact (fun k_ hk => (.inr (Nat.le_trans (below_size (by repeat (first | (with_reducible first | exact HB.out | apply below_alloc | apply pw_below_drewN | apply below_drew1) | exact HB.out))) hk))))
                                (case aO => exact (by (with_reducible repeat (first | apply Kd.N_alloc | apply Kd.N_drewN | apply Kd.N_drew)); exact HO76015.out))
                                (case aS => exact (below_size (by repeat (first | (with_reducible first | exact HB.out | apply below_alloc | apply pw_below_drewN | apply below_drew1) | exact HB.out))))
                                (case aL => have := LMc18.out; omega)
                                intro v76022 w25 ho hb hg hat
                                rw [← Ny76021.out] at ho
                                have n0_ := Aside0.mk (Kd.V_afterv (ok := (fun k_ => (P0_ k_ ∨ w.heap.size ≤ k_))) (by (with_reducible repeat (first | apply Kd.V_alloc | apply Kd.V_drewN | apply Kd.V_drew)); exact HO_0.out) hg hat)
                                have n1_ := Aside0.mk (Kd.V_afterv (ok := (fun k_ => (P0_ k_ ∨ w.heap.size ≤ k_))) (by (with_reducible repeat (first | apply Kd.V_alloc | apply Kd.V_drewN | apply Kd.V_drew)); exact HO76012.out) hg hat)
                                have n2_ := Aside0.mk (Kd.V_afterv (ok := (fun k_ => (P0_ k_ ∨ w.heap.size ≤ k_))) (by (with_reducible repeat (first | apply Kd.V_alloc | apply Kd.V_drewN | apply Kd.V_drew)); exact HO76020.out) hg hat)
                                have n3_ := Aside0.mk (hb)
                                have n4_ := Aside0.mk (ho)
                                clear HO_0
                                clear HO76012
                                clear HO76020
                                clear HB
                                clear HO76015
                                have HO_0 := n0_
                                have HO76012 := n1_
                                have HO76020 := n2_
                                have HB := n3_
                                have HO76023 := n4_
                                clear n0_ n1_ n2_ n3_ n4_
                                clear ho hb hg hat
                                refine hK.out _ _ trivial (fun hHeld => ?_)
                                clear hK K
                                refine norm_ (a' := ?_) ?_ ?_
                                rotate_left
                                · show Act.put _ (some 51) _ = _
                                  simp only [Act.put, List.setIfInBounds_toArray, List.set_cons_zero, List.set_cons_succ, i64_w, i32_w]
                                  rfl
                                refine pure_ (i := 10) (N := some 2) (v := ?_) (a' := ?_) #[true, true, true, true, true, true, true, true, true, true, true, false] rfl rfl (any_of HT_.out (by kernel_rfl)) (fun _ _ _ h => h) (Or.inl ⟨by rfl, ?_⟩) ?_ ?_
                                rotate_left
                                · intro w'
                                  go_simp
                                  with_reducible rfl
                                rotate_left
                                · simp only [Act.put, List.setIfInBounds_toArray, List.set_cons_zero, List.set_cons_succ, i64_w, i32_w]
                                  rfl
                                refine pure_ (i := 11) (N := some 3) (v := ?_) (a' := ?_) #[true, true, true, true, true, true, true, true, true, true, true, true] rfl rfl (any_of HT_.out (by kernel_rfl)) (fun _ _ _ h => h) (Or.inl ⟨by rfl, ?_⟩) ?_ ?_
                                rotate_left
                                · intro w'
                                  go_simp
                                  with_reducible rfl
                                rotate_left
                                · simp only [Act.put, List.setIfInBounds_toArray, List.set_cons_zero, List.set_cons_succ, i64_w, i32_w]
                                  rfl
                                refine done_ (done_of HT_.out (by kernel_rfl)) ?_
                                try go_wp2
                                go_ret2
                                exact ⟨_, by first | rfl | (simp [errW_none, errW_some] <;> rfl) | (simp only [← hji5, ← hji15]; first | rfl | (simp [errW_none, errW_some] <;> rfl)) | (simp [*, errW_none, errW_some] <;> rfl), Kd.N_V (by (with_reducible repeat (first | apply Kd.N_alloc | apply Kd.N_drewN | apply Kd.N_drew)); exact HO76023.out), by repeat (first | (with_reducible first | exact HB.out | apply below_alloc | apply pw_below_drewN | apply below_drew1) | exact HB.out)⟩
                              · rw [if_neg c18] at H
                                exact absurd H (by simp)
                            · rw [if_neg c17] at H
                              exact absurd H (by simp)
                          · rw [if_neg c16] at H
                            exact absurd H (by simp)
                        · rw [if_neg c14] at H
                          exact absurd H (by simp)
                      · rw [if_neg c13] at H
                        exact absurd H (by simp)
                    · rw [if_neg c12] at H
                      exact absurd H (by simp)
                  · replace c11 := Bool.eq_false_iff.mpr c11
                    subst c11
                    have H1 : (if (wrap64 (x4_1 + 3)) < (l0.length : Int) then (if 0 ≤ x4_1 then (if x4_1 < (l0.length : Int) then (if ((rd_T59 l0 x4_1).f0) = 1 then (if (((rd_T59 l0 x4_1).f0) == ((rd_T59 l0 (ji5)).f0)) = true then (if 0 ≤ (wrap64 (x4_1 + 2)) then (if (wrap64 (x4_1 + 2)) < (l0.length : Int) then (if ((rd_T59 l0 (wrap64 (x4_1 + 2))).f0) = 1 then (if 0 ≤ (wrap64 (x4_1 + 3)) then (if ((rd_T59 l0 (wrap64 (x4_1 + 3))).f0) = 1 then ((some (([] : List (S59)) : List (S59))).bind fun y76027 => (if x4_1 ≤ (l0.length : Int) then ((some (l0.take (x4_1 : Int).toNat : List (S59))).bind fun y76030 => (if y76027.length + y76030.length < 2199023255552 then ((some (y76027 ++ y76030 : List (S59))).bind fun y76035 => (if 0 ≤ (wrap64 (x4_1 + 4)) then (if (wrap64 (x4_1 + 4)) ≤ (l0.length : Int) then ((some (l0.drop ((wrap64 (x4_1 + 4)) : Int).toNat : List (S59))).bind fun y76038 => (if y76035.length + y76038.length < 2199023255552 then (some ((y76035 ++ y76038), true)) else (none))) else (none)) else (none))) else (none))) else (none))) else (spec_simpler.l0 kj6 l0 (wrap64 (x4_1 + 1)))) else (none)) else (spec_simpler.l0 kj6 l0 (wrap64 (x4_1 + 1)))) else (none)) else (none)) else (spec_simpler.l0 kj6 l0 (wrap64 (x4_1 + 1)))) else (spec_simpler.l0 kj6 l0 (wrap64 (x4_1 + 1)))) else (none)) else (none)) else (spec_simpler.l0 kj6 l0 (wrap64 (x4_1 + 1)))) = some (r1, r2) := by rw [if_neg (show ¬ (false = true) by decide)] at H; exact H
                    clear H
                    have H := H1
                    clear H1
                    by_cases c26 : (wrap64 (x4_1 + 3)) < (l0.length : Int)
                    · rw [if_pos c26] at H
                      have c26b0 : decide ((wrap64 (x4_1 + 3)) < (l0.length : Int)) = true := decide_eq_true c26
                      clear c26
                      by_cases c27 : 0 ≤ x4_1
                      · rw [if_pos c27] at H
                        have c27b0 : decide (0 ≤ x4_1) = true := decide_eq_true c27
                        clear c27
                        by_cases c28 : x4_1 < (l0.length : Int)
                        · rw [if_pos c28] at H
                          have c28b0 : decide (x4_1 < (l0.length : Int)) = true := decide_eq_true c28
                          clear c28
                          by_cases c29 : ((rd_T59 l0 x4_1).f0) = 1
                          · rw [if_pos c29] at H
                            have c29b0 : (((rd_T59 l0 x4_1).f0) == 1) = true := beq_iff_eq.mpr c29
                            have c29b1 : (((rd_T59 l0 x4_1).f0) != 1) = false := bne_eq_false_iff_eq.mpr c29
                            clear c29
                            by_cases c30 : (((rd_T59 l0 x4_1).f0) == ((rd_T59 l0 (ji5)).f0)) = true
                            · rw [if_pos c30] at H
                              have c30b0 : (((rd_T59 l0 x4_1).f0) == ((rd_T59 l0 (ji5)).f0)) = true := c30
                              (try (have c30b1 : decide (((rd_T59 l0 x4_1).f0) = ((rd_T59 l0 (ji5)).f0)) = true := by simpa using c30))
                              (try (have c30b2 : (((rd_T59 l0 x4_1).f0) == ((rd_T59 l0 (ji5)).f0)) = true := by simpa using c30))
                              clear c30
                              obtain ⟨ji31, hji31⟩ : ∃ j_ : Int, (wrap64 (x4_1 + 2)) = j_ := ⟨_, rfl⟩
                              replace H : (if 0 ≤ (ji31) then (if (ji31) < (l0.length : Int) then (if ((rd_T59 l0 (ji31)).f0) = 1 then (if 0 ≤ (wrap64 (x4_1 + 3)) then (if ((rd_T59 l0 (wrap64 (x4_1 + 3))).f0) = 1 then ((some (([] : List (S59)) : List (S59))).bind fun y76027 => (if x4_1 ≤ (l0.length : Int) then ((some (l0.take (x4_1 : Int).toNat : List (S59))).bind fun y76030 => (if y76027.length + y76030.length < 2199023255552 then ((some (y76027 ++ y76030 : List (S59))).bind fun y76035 => (if 0 ≤ (wrap64 (x4_1 + 4)) then (if (wrap64 (x4_1 + 4)) ≤ (l0.length : Int) then ((some (l0.drop ((wrap64 (x4_1 + 4)) : Int).toNat : List (S59))).bind fun y76038 => (if y76035.length + y76038.length < 2199023255552 then (some ((y76035 ++ y76038), true)) else (none))) else (none)) else (none))) else (none))) else (none))) else (spec_simpler.l0 kj6 l0 (wrap64 (x4_1 + 1)))) else (none)) else (spec_simpler.l0 kj6 l0 (wrap64 (x4_1 + 1)))) else (none)) else (none)) = some (r1, r2) := by first | (rw [hji31] at H; exact H) | (simp only [hji31] at H ⊢; exact H)
                              have hji31w : (IntKind.i64.wrap (x4_1 + 2)) = ji31 := (i64_w _).trans hji31
                              by_cases c32 : 0 ≤ (ji31)
                              · rw [if_pos c32] at H
                                have c32b0 : decide (0 ≤ (ji31)) = true := decide_eq_true c32
                                clear c32
                                by_cases c33 : (ji31) < (l0.length : Int)
                                · rw [if_pos c33] at H
                                  have c33b0 : decide ((ji31) < (l0.length : Int)) = true := decide_eq_true c33
                                  clear c33
                                  by_cases c34 : ((rd_T59 l0 (ji31)).f0) = 1
                                  · rw [if_pos c34] at H
                                    have c34b0 : (((rd_T59 l0 (ji31)).f0) == 1) = true := beq_iff_eq.mpr c34
                                    have c34b1 : (((rd_T59 l0 (ji31)).f0) != 1) = false := bne_eq_false_iff_eq.mpr c34
                                    clear c34
                                    obtain ⟨ji35, hji35⟩ : ∃ j_ : Int, (wrap64 (x4_1 + 3)) = j_ := ⟨_, rfl⟩
                                    replace H : (if 0 ≤ (ji35) then (if ((rd_T59 l0 (ji35)).f0) = 1 then ((some (([] : List (S59)) : List (S59))).bind fun y76027 => (if x4_1 ≤ (l0.length : Int) then ((some (l0.take (x4_1 : Int).toNat : List (S59))).bind fun y76030 => (if y76027.length + y76030.length < 2199023255552 then ((some (y76027 ++ y76030 : List (S59))).bind fun y76035 => (if 0 ≤ (wrap64 (x4_1 + 4)) then (if (wrap64 (x4_1 + 4)) ≤ (l0.length : Int) then ((some (l0.drop ((wrap64 (x4_1 + 4)) : Int).toNat : List (S59))).bind fun y76038 => (if y76035.length + y76038.length < 2199023255552 then (some ((y76035 ++ y76038), true)) else (none))) else (none)) else (none))) else (none))) else (none))) else (spec_simpler.l0 kj6 l0 (wrap64 (x4_1 + 1)))) else (none)) = some (r1, r2) := by first | (rw [hji35] at H; exact H) | (simp only [hji35] at H ⊢; exact H)
                                    (try rw [hji35] at c26b0)
                                    have hji35w : (IntKind.i64.wrap (x4_1 + 3)) = ji35 := (i64_w _).trans hji35
                                    by_cases c36 : 0 ≤ (ji35)
                                    · rw [if_pos c36] at H
                                      have c36b0 : decide (0 ≤ (ji35)) = true := decide_eq_true c36
                                      clear c36
                                      by_cases c37 : ((rd_T59 l0 (ji35)).f0) = 1
                                      · rw [if_pos c37] at H
                                        have c37b0 : (((rd_T59 l0 (ji35)).f0) == 1) = true := beq_iff_eq.mpr c37
                                        have c37b1 : (((rd_T59 l0 (ji35)).f0) != 1) = false := bne_eq_false_iff_eq.mpr c37
                                        clear c37
                                        obtain ⟨y76027, hy76027⟩ : ∃ y_ : List (S59), y_ = (([] : List (S59))) := ⟨_, rfl⟩
                                        replace H : (if x4_1 ≤ (l0.length : Int) then ((some (l0.take (x4_1 : Int).toNat : List (S59))).bind fun y76030 => (if y76027.length + y76030.length < 2199023255552 then ((some (y76027 ++ y76030 : List (S59))).bind fun y76035 => (if 0 ≤ (wrap64 (x4_1 + 4)) then (if (wrap64 (x4_1 + 4)) ≤ (l0.length : Int) then ((some (l0.drop ((wrap64 (x4_1 + 4)) : Int).toNat : List (S59))).bind fun y76038 => (if y76035.length + y76038.length < 2199023255552 then (some ((y76035 ++ y76038), true)) else (none))) else (none)) else (none))) else (none))) else (none)) = some (r1, r2) := by first | (rw [hy76027]; with_reducible exact H) | (have H2_ := (Option.bind_some _ _).symm.trans H; rw [hy76027]; with_reducible exact H2_) | (have H2_ := (Option.bind_some _ _).symm.trans H; with_reducible exact H2_) | with_reducible exact H | (rw [hy76027]; exact H) | exact H
                                        have Ny76027 := Aside0.mk hy76027
                                        clear hy76027
                                        have c38b0 := eq_true (of_decide_eq_true (by first | (with_reducible assumption) | assumption) : 0 ≤ x4_1)
                                        by_cases c39 : x4_1 ≤ (l0.length : Int)
                                        · rw [if_pos c39] at H
                                          have c39b0 := eq_true c39
                                          have c39b1 : decide (x4_1 ≤ (l0.length : Int)) = true := decide_eq_true c39
                                          clear c39
                                          obtain ⟨y76030, hy76030⟩ : ∃ y_ : List (S59), y_ = (l0.take (x4_1 : Int).toNat) := ⟨_, rfl⟩
                                          replace H : (if y76027.length + y76030.length < 2199023255552 then ((some (y76027 ++ y76030 : List (S59))).bind fun y76035 => (if 0 ≤ (wrap64 (x4_1 + 4)) then (if (wrap64 (x4_1 + 4)) ≤ (l0.length : Int) then ((some (l0.drop ((wrap64 (x4_1 + 4)) : Int).toNat : List (S59))).bind fun y76038 => (if y76035.length + y76038.length < 2199023255552 then (some ((y76035 ++ y76038), true)) else (none))) else (none)) else (none))) else (none)) = some (r1, r2) := by first | (rw [hy76030]; with_reducible exact H) | (have H2_ := (Option.bind_some _ _).symm.trans H; rw [hy76030]; with_reducible exact H2_) | (have H2_ := (Option.bind_some _ _).symm.trans H; with_reducible exact H2_) | with_reducible exact H | (rw [hy76030]; exact H) | exact H
                                          have Ny76030 := Aside0.mk hy76030
                                          clear hy76030
                                          by_cases c40 : y76027.length + y76030.length < 2199023255552
                                          · rw [if_pos c40] at H
                                            have LMc40 := Aside0.mk c40
                                            clear c40
                                            obtain ⟨y76035, hy76035⟩ : ∃ y_ : List (S59), y_ = (y76027 ++ y76030) := ⟨_, rfl⟩
                                            replace H : (if 0 ≤ (wrap64 (x4_1 + 4)) then (if (wrap64 (x4_1 + 4)) ≤ (l0.length : Int) then ((some (l0.drop ((wrap64 (x4_1 + 4)) : Int).toNat : List (S59))).bind fun y76038 => (if y76035.length + y76038.length < 2199023255552 then (some ((y76035 ++ y76038), true)) else (none))) else (none)) else (none)) = some (r1, r2) := by first | (rw [hy76035]; with_reducible exact H) | (have H2_ := (Option.bind_some _ _).symm.trans H; rw [hy76035]; with_reducible exact H2_) | (have H2_ := (Option.bind_some _ _).symm.trans H; with_reducible exact H2_) | with_reducible exact H | (rw [hy76035]; exact H) | exact H
                                            have Ny76035 := Aside0.mk hy76035
                                            clear hy76035
                                            obtain ⟨ji41, hji41⟩ : ∃ j_ : Int, (wrap64 (x4_1 + 4)) = j_ := ⟨_, rfl⟩
                                            replace H : (if 0 ≤ (ji41) then (if (ji41) ≤ (l0.length : Int) then ((some (l0.drop ((ji41) : Int).toNat : List (S59))).bind fun y76038 => (if y76035.length + y76038.length < 2199023255552 then (some ((y76035 ++ y76038), true)) else (none))) else (none)) else (none)) = some (r1, r2) := by first | (rw [hji41] at H; exact H) | (simp only [hji41] at H ⊢; exact H)
                                            have hji41w : (IntKind.i64.wrap (x4_1 + 4)) = ji41 := (i64_w _).trans hji41
                                            by_cases c42 : 0 ≤ (ji41)
                                            · rw [if_pos c42] at H
                                              have c42b0 := eq_true c42
                                              have c42b1 : decide (0 ≤ (ji41)) = true := decide_eq_true c42
                                              clear c42
                                              by_cases c43 : (ji41) ≤ (l0.length : Int)
                                              · rw [if_pos c43] at H
                                                have c43b0 := eq_true c43
                                                have c43b1 : decide ((ji41) ≤ (l0.length : Int)) = true := decide_eq_true c43
                                                clear c43
                                                obtain ⟨y76038, hy76038⟩ : ∃ y_ : List (S59), y_ = (l0.drop ((ji41) : Int).toNat) := ⟨_, rfl⟩
                                                replace H : (if y76035.length + y76038.length < 2199023255552 then (some ((y76035 ++ y76038), true)) else (none)) = some (r1, r2) := by first | (rw [hy76038]; with_reducible exact H) | (have H2_ := (Option.bind_some _ _).symm.trans H; rw [hy76038]; with_reducible exact H2_) | (have H2_ := (Option.bind_some _ _).symm.trans H; with_reducible exact H2_) | with_reducible exact H | (rw [hy76038]; exact H) | exact H
                                                have Ny76038 := Aside0.mk hy76038
                                                clear hy76038
                                                by_cases c44 : y76035.length + y76038.length < 2199023255552
                                                · rw [if_pos c44] at H
                                                  have LMc44 := Aside0.mk c44
                                                  clear c44
                                                  obtain ⟨y76043, hy76043⟩ : ∃ y_ : List (S59), y_ = (y76035 ++ y76038) := ⟨_, rfl⟩
                                                  replace H : (some (y76043, true)) = some (r1, r2) := by first | (rw [hy76043]; with_reducible exact H) | (have H2_ := (Option.bind_some _ _).symm.trans H; rw [hy76043]; with_reducible exact H2_) | (have H2_ := (Option.bind_some _ _).symm.trans H; with_reducible exact H2_) | with_reducible exact H | (rw [hy76043]; exact H) | exact H
                                                  have Ny76043 := Aside0.mk hy76043
                                                  clear hy76043
                                                  simp only [Option.some.injEq, Prod.mk.injEq] at H
                                                  obtain ⟨rfl, rfl⟩ := H
                                                  have p76024 : 0 ≤ (x4_1 : Int) := of_decide_eq_true (by first | (with_reducible assumption) | assumption)
                                                  have q76024 : x4_1 < (l0.length : Int) := of_decide_eq_true (by first | (with_reducible assumption) | assumption)
                                                  obtain ⟨ad76024, A76024_5, c76024_5, e76024, hx76024_0, hx76024_1, hx76024_2, hx76024_3, hx76024_4, hx76024_5, hl76024_5, hi76024_5⟩ := at_T59 (Kd.V_reads' HO_0.out).2.2 x4_1 p76024 q76024
                                                  obtain rfl : ad76001 = ad76024 := (by injection e76024)
                                                  obtain ⟨ce76024, hce76024, hMe76024, hcc76024⟩ := Kd.V_get HO_0.out z59 x4_1 p76024 (by first | exact q76024 | exact of_decide_eq_true (by first | (with_reducible assumption) | assumption) | (have e_ := (Kd.V_reads' HO_0.out).1; omega))
                                                  obtain ⟨ua76024_5, uc76024_5, rfl, ul76024_5, ge76024_5⟩ := k59_openF hMe76024
                                                  have hv76024_5 := hcc76024 5 _ rfl
                                                  rw [add_field _ _ 5 (by omega)] at hv76024_5
                                                  replace hv76024_5 := Option.some.inj (hv76024_5.symm.trans hx76024_5)
                                                  injection hv76024_5 with hva_ hvn_ hvc_
                                                  rw [hva_] at ge76024_5
                                                  rw [hvc_] at ul76024_5
                                                  have HL76024_5 := Aside0.mk (show Kd.V (Kd.int .i64) 3 _ w.heap.size _ _ ((rd_T59 l0 x4_1).f2) from Kd.V_mk ul76024_5 ge76024_5)
                                                  clear hva_ hvn_ hvc_ ge76024_5 ul76024_5
                                                  clear hcc76024 hce76024
                                                  have HR76024_5 := Aside0.mk hi76024_5
                                                  have HC76024_5 := Aside0.mk hl76024_5
                                                  clear hi76024_5 hl76024_5
                                                  replace p76024 := eq_true p76024
                                                  replace q76024 := eq_true q76024
                                                  have p76025 : 0 ≤ ((ji31) : Int) := of_decide_eq_true (by first | (with_reducible assumption) | assumption)
                                                  have q76025 : (ji31) < (l0.length : Int) := of_decide_eq_true (by first | (with_reducible assumption) | assumption)
                                                  obtain ⟨ad76025, A76025_5, c76025_5, e76025, hx76025_0, hx76025_1, hx76025_2, hx76025_3, hx76025_4, hx76025_5, hl76025_5, hi76025_5⟩ := at_T59 (Kd.V_reads' HO_0.out).2.2 (ji31) p76025 q76025
                                                  obtain rfl : ad76001 = ad76025 := (by injection e76025)
                                                  obtain ⟨ce76025, hce76025, hMe76025, hcc76025⟩ := Kd.V_get HO_0.out z59 (ji31) p76025 (by first | exact q76025 | exact of_decide_eq_true (by first | (with_reducible assumption) | assumption) | (have e_ := (Kd.V_reads' HO_0.out).1; omega))
                                                  obtain ⟨ua76025_5, uc76025_5, rfl, ul76025_5, ge76025_5⟩ := k59_openF hMe76025
                                                  have hv76025_5 := hcc76025 5 _ rfl
                                                  rw [add_field _ _ 5 (by omega)] at hv76025_5
                                                  replace hv76025_5 := Option.some.inj (hv76025_5.symm.trans hx76025_5)
                                                  injection hv76025_5 with hva_ hvn_ hvc_
                                                  rw [hva_] at ge76025_5
                                                  rw [hvc_] at ul76025_5
                                                  have HL76025_5 := Aside0.mk (show Kd.V (Kd.int .i64) 3 _ w.heap.size _ _ ((rd_T59 l0 (ji31)).f2) from Kd.V_mk ul76025_5 ge76025_5)
                                                  clear hva_ hvn_ hvc_ ge76025_5 ul76025_5
                                                  clear hcc76025 hce76025
                                                  have HR76025_5 := Aside0.mk hi76025_5
                                                  have HC76025_5 := Aside0.mk hl76025_5
                                                  clear hi76025_5 hl76025_5
                                                  replace p76025 := eq_true p76025
                                                  replace q76025 := eq_true q76025
                                                  have p76026 : 0 ≤ ((ji35) : Int) := of_decide_eq_true (by first | (with_reducible assumption) | assumption)
                                                  have q76026 : (ji35) < (l0.length : Int) := of_decide_eq_true (by first | (with_reducible assumption) | assumption)
                                                  obtain ⟨ad76026, A76026_5, c76026_5, e76026, hx76026_0, hx76026_1, hx76026_2, hx76026_3, hx76026_4, hx76026_5, hl76026_5, hi76026_5⟩ := at_T59 (Kd.V_reads' HO_0.out).2.2 (ji35) p76026 q76026
                                                  obtain rfl : ad76001 = ad76026 := (by injection e76026)
                                                  obtain ⟨ce76026, hce76026, hMe76026, hcc76026⟩ := Kd.V_get HO_0.out z59 (ji35) p76026 (by first | exact q76026 | exact of_decide_eq_true (by first | (with_reducible assumption) | assumption) | (have e_ := (Kd.V_reads' HO_0.out).1; omega))
                                                  obtain ⟨ua76026_5, uc76026_5, rfl, ul76026_5, ge76026_5⟩ := k59_openF hMe76026
                                                  have hv76026_5 := hcc76026 5 _ rfl
                                                  rw [add_field _ _ 5 (by omega)] at hv76026_5
                                                  replace hv76026_5 := Option.some.inj (hv76026_5.symm.trans hx76026_5)
                                                  injection hv76026_5 with hva_ hvn_ hvc_
                                                  rw [hva_] at ge76026_5
                                                  rw [hvc_] at ul76026_5
                                                  have HL76026_5 := Aside0.mk (show Kd.V (Kd.int .i64) 3 _ w.heap.size _ _ ((rd_T59 l0 (ji35)).f2) from Kd.V_mk ul76026_5 ge76026_5)
                                                  clear hva_ hvn_ hvc_ ge76026_5 ul76026_5
                                                  clear hcc76026 hce76026
                                                  have HR76026_5 := Aside0.mk hi76026_5
                                                  have HC76026_5 := Aside0.mk hl76026_5
                                                  clear hi76026_5 hl76026_5
                                                  replace p76026 := eq_true p76026
                                                  replace q76026 := eq_true q76026
                                                  try go_wp2
                                                  have n0_ := Aside0.mk (Kd.V_drew HO_0.out)
                                                  have n1_ := Aside0.mk (Kd.V_drew HL76024_5.out)
                                                  have n2_ := Aside0.mk (Kd.V_drew HL76025_5.out)
                                                  have n3_ := Aside0.mk (Kd.V_drew HL76026_5.out)
                                                  have n4_ := Aside0.mk (Kd.C_drew HR76001_5.out)
                                                  have n5_ := Aside0.mk (Kd.C_drew HR76002_5.out)
                                                  have n6_ := Aside0.mk (Kd.C_drew HR76024_5.out)
                                                  have n7_ := Aside0.mk (Kd.C_drew HR76025_5.out)
                                                  have n8_ := Aside0.mk (Kd.C_drew HR76026_5.out)
                                                  have n9_ := Aside0.mk (below_drew1 HB.out)
                                                  clear HO_0
                                                  clear HL76024_5
                                                  clear HL76025_5
                                                  clear HL76026_5
                                                  clear HR76001_5
                                                  clear HR76002_5
                                                  clear HR76024_5
                                                  clear HR76025_5
                                                  clear HR76026_5
                                                  clear HB
                                                  have HO_0 := n0_
                                                  have HL76024_5 := n1_
                                                  have HL76025_5 := n2_
                                                  have HL76026_5 := n3_
                                                  have HR76001_5 := n4_
                                                  have HR76002_5 := n5_
                                                  have HR76024_5 := n6_
                                                  have HR76025_5 := n7_
                                                  have HR76026_5 := n8_
                                                  have HB := n9_
                                                  clear n0_ n1_ n2_ n3_ n4_ n5_ n6_ n7_ n8_ n9_
                                                  have q46 : (x4_1 : Int) ≤ ((l0.length : Int) : Int) := of_decide_eq_true (by first | (with_reducible assumption) | assumption)
                                                  obtain ⟨i046, hi046, _, hsz46, _⟩ := info_parts info59
                                                  have hroom46 : l0.length ≤ c0 := (Kd.V_reads' HO_0.out).2.1
                                                  have hC46 : Kd.F k59 _ _ (some ad76001) l0.length l0 := (Kd.V_at (base := w.heap.size) HO_0.out).2.2
                                                  have hcut46 := cut_to (P := Try.prog) 53 59 .i64 Try.underlying53 hi046 (some ad76001) l0.length c0 x4_1 (of_decide_eq_true (by first | (with_reducible assumption) | assumption)) q46 hroom46
                                                  have hr46 := Kd.F_take (m := (x4_1 : Int).toNat) hC46 (by omega)
                                                  have hy46 : y76030.length = (x4_1 : Int).toNat := (by rw [Ny76030.out, List.length_take]; omega)
                                                  rw [← Ny76030.out] at hr46
                                                  rw [← hy46] at hcut46
                                                  have HO76034 := Aside0.mk (show Kd.V k59 59 _ w.heap.size _ (.slice (some ad76001) y76030.length c0) y76030 from Kd.V_mk (by omega) hr46)
                                                  have HC76034 := Aside0.mk (show y76030.length ≤ c0 from by omega)
                                                  clear hr46 hC46 hroom46 hi046 hsz46
                                                  have KY46 := Aside0.mk hy46
                                                  clear hy46
                                                  replace q46 := eq_true q46
                                                  have q47 : ((ji41) : Int) ≤ ((l0.length : Int) : Int) := of_decide_eq_true (by first | (with_reducible assumption) | assumption)
                                                  obtain ⟨i047, hi047, _, hsz47, _⟩ := info_parts info59
                                                  have hroom47 : l0.length ≤ c0 := (Kd.V_reads' HO_0.out).2.1
                                                  have hC47 : Kd.F k59 _ _ (some ad76001) l0.length l0 := (Kd.V_at (base := w.heap.size) HO_0.out).2.2
                                                  have q047 : (0 : Int) ≤ ((ji41) : Int) := of_decide_eq_true (by first | (with_reducible assumption) | assumption)
                                                  have hcut47 := cut_from (P := Try.prog) 53 59 .i64 Try.underlying53 hi047 6 hsz47 (some ad76001) l0.length c0 (ji41) q047 q47
                                                  have hr47 := Kd.F_cut (m := ((ji41) : Int).toNat) (c := c0) hC47 (by omega) hroom47
                                                  obtain ⟨A47, hA47⟩ : ∃ A1, A1 = (if c0 = ((ji41) : Int).toNat then (some ad76001) else ((some ad76001) : Option Addr).map (·.add (((ji41) : Int).toNat * 6))) := ⟨_, rfl⟩
                                                  obtain ⟨c47, hc47⟩ : ∃ c1, c1 = c0 - ((ji41) : Int).toNat := ⟨_, rfl⟩
                                                  have hy47 : y76038.length = l0.length - ((ji41) : Int).toNat := (by rw [Ny76038.out, List.length_drop] <;> omega)
                                                  rw [show (l0).drop ((ji41) : Int).toNat = y76038 from Ny76038.out.symm] at hr47
                                                  replace hr47 : Kd.F k59 _ _ A47 y76038.length y76038 := (by rw [hA47]; exact hr47)
                                                  rw [← hy47, ← hA47, ← hc47] at hcut47
                                                  have HO76042 := Aside0.mk (show Kd.V k59 59 _ w.heap.size _ (.slice A47 y76038.length c47) y76038 from Kd.V_mk (by rw [hy47, hc47]; exact Nat.sub_le_sub_right hroom47 _) hr47)
                                                  have HC76042 := Aside0.mk (show y76038.length ≤ c47 from by rw [hy47, hc47]; exact Nat.sub_le_sub_right hroom47 _)
                                                  clear hr47 hC47 hroom47 hi047 hsz47 hc47
                                                  have KY47 := Aside0.mk hy47
                                                  have KA47 := Aside0.mk hA47
                                                  clear hy47 hA47
                                                  replace q47 := eq_true q47
                                                  refine start_ (n := 12) (S := fun w' => True) (ds := []) #[false, false, false, false, false, false, false, false, false, false, false, false] (by kernel_rfl) rfl rfl trivial (fun hHeld => ?_); refine with_tabW spec_simpler.tab8 spec_simpler.bits8 (fun HT_ HW_ => ?_)
                                                  generalize wc.drew = w45 at HO_0 HL76024_5 HL76025_5 HL76026_5 HR76001_5 HR76002_5 HR76024_5 HR76025_5 HR76026_5 HB HO76034 HO76042 hHeld ⊢
                                                  refine pure_ (i := 1) (N := some 87) (v := ?_) (a' := ?_) #[false, true, false, false, false, false, false, false, false, false, false, false] rfl rfl (any_of HT_.out (by kernel_rfl)) (fun _ _ _ h => h) (Or.inl ⟨by rfl, ?_⟩) ?_ ?_
                                                  rotate_left
                                                  · intro w'
                                                    go_simp
                                                    with_reducible rfl
                                                  rotate_left
                                                  · simp only [Act.put, List.setIfInBounds_toArray, List.set_cons_zero, List.set_cons_succ, i64_w, i32_w]
                                                    rfl
                                                  refine pure_ (i := 2) (N := some 88) (v := ?_) (a' := ?_) #[false, true, true, false, false, false, false, false, false, false, false, false] rfl rfl (any_of HT_.out (by kernel_rfl)) (fun _ _ _ h => h) (Or.inl ⟨by rfl, ?_⟩) ?_ ?_
                                                  rotate_left
                                                  · intro w'
                                                    go_simp
                                                    with_reducible rfl
                                                  rotate_left
                                                  · simp only [Act.put, List.setIfInBounds_toArray, List.set_cons_zero, List.set_cons_succ, i64_w, i32_w]
                                                    rfl
                                                  refine pure_ (i := 3) (N := some 89) (v := ?_) (a' := ?_) #[false, true, true, true, false, false, false, false, false, false, false, false] rfl rfl (any_of HT_.out (by kernel_rfl)) (fun _ _ _ h => h) (Or.inl ⟨by rfl, ?_⟩) ?_ ?_
                                                  rotate_left
                                                  · intro w'
                                                    go_simp
                                                    with_reducible rfl
                                                  rotate_left
                                                  · simp only [Act.put, List.setIfInBounds_toArray, List.set_cons_zero, List.set_cons_succ, i64_w, i32_w]
                                                    rfl
                                                  refine pure_ (i := 5) (N := some 91) (v := ?_) (a' := ?_) #[false, true, true, true, false, true, false, false, false, false, false, false] rfl rfl (any_of HT_.out (by kernel_rfl)) (fun _ _ _ h => h) (Or.inl ⟨by rfl, ?_⟩) ?_ ?_
                                                  rotate_left
                                                  · intro w'
                                                    go_simp
                                                    with_reducible rfl
                                                  rotate_left
                                                  · simp only [Act.put, List.setIfInBounds_toArray, List.set_cons_zero, List.set_cons_succ, i64_w, i32_w]
                                                    rfl
                                                  refine pure_ (i := 6) (N := some 92) (v := ?_) (a' := ?_) #[false, true, true, true, false, true, true, false, false, false, false, false] rfl rfl (any_of HT_.out (by kernel_rfl)) (fun _ _ _ h => h) (Or.inl ⟨by rfl, ?_⟩) ?_ ?_
                                                  rotate_left
                                                  · intro w'
                                                    go_simp
                                                    with_reducible rfl
                                                  rotate_left
                                                  · simp only [Act.put, List.setIfInBounds_toArray, List.set_cons_zero, List.set_cons_succ, i64_w, i32_w]
                                                    rfl
                                                  refine pure_ (i := 7) (N := some 93) (v := ?_) (a' := ?_) #[false, true, true, true, false, true, true, true, false, false, false, false] rfl rfl (any_of HT_.out (by kernel_rfl)) (fun _ _ _ h => h) (Or.inl ⟨by rfl, ?_⟩) ?_ ?_
                                                  rotate_left
                                                  · intro w'
                                                    go_simp
                                                    with_reducible rfl
                                                  rotate_left
                                                  · simp only [Act.put, List.setIfInBounds_toArray, List.set_cons_zero, List.set_cons_succ, i64_w, i32_w]
                                                    rfl
                                                  refine pure_ (i := 8) (N := some 94) (v := ?_) (a' := ?_) #[false, true, true, true, false, true, true, true, true, false, false, false] rfl rfl (any_of HT_.out (by kernel_rfl)) (fun _ _ _ h => h) (Or.inl ⟨by rfl, ?_⟩) ?_ ?_
                                                  rotate_left
                                                  · intro w'
                                                    go_simp
                                                    with_reducible rfl
                                                  rotate_left
                                                  · simp only [Act.put, List.setIfInBounds_toArray, List.set_cons_zero, List.set_cons_succ, i64_w, i32_w]
                                                    rfl
                                                  refine one_ (i := 0) (N := some 86) #[true, true, true, true, false, true, true, true, true, false, false, false] rfl rfl (one_of HT_.out (by kernel_rfl)) (by decide) (fun K hK => ?_)
                                                  refine Kd.N_lit_step k59 _ 59 ?hg (N' := 86) ?hd (xs := ([] : List (S59))) (inner := []) (ok := (fun k_ => (P0_ k_ ∨ w.heap.size ≤ k_))) (okp := (fun k_ => (P0_ k_ ∨ w.heap.size ≤ k_))) ?hr ?hp (fun _ hk => hk) ((show ∀ k_, w45.heap.size ≤ k_ → (fun k_ => (P0_ k_ ∨ w.heap.size ≤ k_)) k_ from fun k_ hk => (.inr (Nat.le_trans (below_size (by repeat (first | (with_reducible first | exact HB.out | apply below_alloc | apply pw_below_drewN | apply below_drew1) | exact HB.out))) hk))) _ (Nat.le_refl _)) (Below.refl _ _) (Nat.le_refl _) (by simp) ?_; (case hd => rfl); (case hg => rfl); (case hr => first | (go_simp; done) | (go_simp; rfl)); (case hp => exact (Reps.none _ _))
                                                  intro v76028 w48 ho49 hb hg_ hnew_
                                                  clear hg_ hnew_
                                                  (first | rw [← Ny76027.out] at ho49 | (simp only [Int.reduceToNat] at ho49; rw [← Ny76027.out] at ho49))
                                                  have n0_ := Aside0.mk (Kd.V_elder' (by (with_reducible repeat (first | apply Kd.V_alloc | apply Kd.V_drewN | apply Kd.V_drew)); exact HO_0.out) (Kd.N_base ho49) hb)
                                                  have n1_ := Aside0.mk (Kd.V_elder' (by (with_reducible repeat (first | apply Kd.V_alloc | apply Kd.V_drewN | apply Kd.V_drew)); exact HL76024_5.out) (Kd.N_base ho49) hb)
                                                  have n2_ := Aside0.mk (Kd.V_elder' (by (with_reducible repeat (first | apply Kd.V_alloc | apply Kd.V_drewN | apply Kd.V_drew)); exact HL76025_5.out) (Kd.N_base ho49) hb)
                                                  have n3_ := Aside0.mk (Kd.V_elder' (by (with_reducible repeat (first | apply Kd.V_alloc | apply Kd.V_drewN | apply Kd.V_drew)); exact HL76026_5.out) (Kd.N_base ho49) hb)
                                                  have n4_ := Aside0.mk (Kd.V_elder' (by (with_reducible repeat (first | apply Kd.V_alloc | apply Kd.V_drewN | apply Kd.V_drew)); exact HO76034.out) (Kd.N_base ho49) hb)
                                                  have n5_ := Aside0.mk (Kd.V_elder' (by (with_reducible repeat (first | apply Kd.V_alloc | apply Kd.V_drewN | apply Kd.V_drew)); exact HO76042.out) (Kd.N_base ho49) hb)
                                                  have n6_ := Aside0.mk (Kd.N_lower ho49 (below_size (by repeat (first | (with_reducible first | exact HB.out | apply below_alloc | apply pw_below_drewN | apply below_drew1) | exact HB.out))))
                                                  have n7_ := Aside0.mk (Kd.C_below (by repeat (first | (with_reducible exact HR76001_5.out) | (with_reducible refine Kd.C_alloc ?_ _) | (with_reducible refine Kd.C_drewN ?_ _) | (with_reducible refine Kd.C_drew ?_) | exact HR76001_5.out)) hb)
                                                  have n8_ := Aside0.mk (Kd.C_below (by repeat (first | (with_reducible exact HR76002_5.out) | (with_reducible refine Kd.C_alloc ?_ _) | (with_reducible refine Kd.C_drewN ?_ _) | (with_reducible refine Kd.C_drew ?_) | exact HR76002_5.out)) hb)
                                                  have n9_ := Aside0.mk (Kd.C_below (by repeat (first | (with_reducible exact HR76024_5.out) | (with_reducible refine Kd.C_alloc ?_ _) | (with_reducible refine Kd.C_drewN ?_ _) | (with_reducible refine Kd.C_drew ?_) | exact HR76024_5.out)) hb)
                                                  have n10_ := Aside0.mk (Kd.C_below (by repeat (first | (with_reducible exact HR76025_5.out) | (with_reducible refine Kd.C_alloc ?_ _) | (with_reducible refine Kd.C_drewN ?_ _) | (with_reducible refine Kd.C_drew ?_) | exact HR76025_5.out)) hb)
                                                  have n11_ := Aside0.mk (Kd.C_below (by repeat (first | (with_reducible exact HR76026_5.out) | (with_reducible refine Kd.C_alloc ?_ _) | (with_reducible refine Kd.C_drewN ?_ _) | (with_reducible refine Kd.C_drew ?_) | exact HR76026_5.out)) hb)
                                                  have n12_ := Aside0.mk (below_step (by repeat (first | (with_reducible first | exact HB.out | apply below_alloc | apply pw_below_drewN | apply below_drew1) | exact HB.out)) hb)
                                                  clear HO_0
                                                  clear HL76024_5
                                                  clear HL76025_5
                                                  clear HL76026_5
                                                  clear HO76034
                                                  clear HO76042
                                                  clear HR76001_5
                                                  clear HR76002_5
                                                  clear HR76024_5
                                                  clear HR76025_5
                                                  clear HR76026_5
                                                  clear HB
                                                  have HO_0 := n0_
                                                  have HL76024_5 := n1_
                                                  have HL76025_5 := n2_
                                                  have HL76026_5 := n3_
                                                  have HO76034 := n4_
                                                  have HO76042 := n5_
                                                  have HO76029 := n6_
                                                  have HR76001_5 := n7_
                                                  have HR76002_5 := n8_
                                                  have HR76024_5 := n9_
                                                  have HR76025_5 := n10_
                                                  have HR76026_5 := n11_
                                                  have HB := n12_
                                                  clear n0_ n1_ n2_ n3_ n4_ n5_ n6_ n7_ n8_ n9_ n10_ n11_ n12_
                                                  clear hb ho49
                                                  refine hK.out _ _ trivial (fun hHeld => ?_)
                                                  clear hK K
                                                  refine norm_ (a' := ?_) ?_ ?_
                                                  rotate_left
                                                  · show Act.put _ (some 86) _ = _
                                                    simp only [Act.put, List.setIfInBounds_toArray, List.set_cons_zero, List.set_cons_succ, i64_w, i32_w]
                                                    rfl
                                                  refine one_ (i := 4) (N := some 90) #[true, true, true, true, true, true, true, true, true, false, false, false] rfl rfl (one_of HT_.out (by kernel_rfl)) (by decide) (fun K hK => ?_)
                                                  refine Kd.N_append_rows_step k59 (w0 := w) w.heap.size (by rfl) (.tmp 86) (.tmp 89) 53 59 (.agg #[(.int .i64 0), (.int .i64 0), (.int .i64 0), (.int .i64 0), (.int .i64 0), (.slice none 0 0)]) 64 rfl Try.underlying53 info59 rfl (by decide) (by omega) v76028 y76027 y76030 _ _ _ (fun k_ => (P0_ k_ ∨ w.heap.size ≤ k_)) (fun k_ => ((fun k_ => (P0_ k_ ∨ w.heap.size ≤ k_))) k_ ∧ some k_ ≠ (v76028 : Value).ownBlock) rfl rfl ?aO ?aR (fun _ hk => hk) ?aF ?aB ?aS ?aL ?_
                                                  (case aR => exact (by skip; exact Kd.V_F (Kd.V_mono (ok' := (fun k_ => ((fun k_ => (P0_ k_ ∨ w.heap.size ≤ k_))) k_ ∧ some k_ ≠ (v76028 : Value).ownBlock)) (HO76034.out) (fun k_ hk => ⟨hk.1, hk.2⟩))))
                                                  (case aB => exact (by repeat (first | (with_reducible first | exact HB.out | apply below_alloc | apply pw_below_drewN | apply below_drew1) | exact HB.out)))
                                                  (case aF => exact (fun k_ hk => (.inr (Nat.le_trans (below_size (by repeat (first | (with_reducible first | exact HB.out | apply below_alloc | apply pw_below_drewN | apply below_drew1) | exact HB.out))) hk))))
                                                  (case aO => exact (by (with_reducible repeat (first | apply Kd.N_alloc | apply Kd.N_drewN | apply Kd.N_drew)); exact HO76029.out))
                                                  (case aS => exact (below_size (by repeat (first | (with_reducible first | exact HB.out | apply below_alloc | apply pw_below_drewN | apply below_drew1) | exact HB.out))))
                                                  (case aL => have := LMc40.out; omega)
                                                  intro v76036 w50 ho hb hg hat
                                                  rw [← Ny76035.out] at ho
                                                  have n0_ := Aside0.mk (Kd.V_afterv (ok := (fun k_ => (P0_ k_ ∨ w.heap.size ≤ k_))) (by (with_reducible repeat (first | apply Kd.V_alloc | apply Kd.V_drewN | apply Kd.V_drew)); exact HO_0.out) hg hat)
                                                  have n1_ := Aside0.mk (Kd.V_afterv (ok := (fun k_ => (P0_ k_ ∨ w.heap.size ≤ k_))) (by (with_reducible repeat (first | apply Kd.V_alloc | apply Kd.V_drewN | apply Kd.V_drew)); exact HL76024_5.out) hg hat)
                                                  have n2_ := Aside0.mk (Kd.V_afterv (ok := (fun k_ => (P0_ k_ ∨ w.heap.size ≤ k_))) (by (with_reducible repeat (first | apply Kd.V_alloc | apply Kd.V_drewN | apply Kd.V_drew)); exact HL76025_5.out) hg hat)
                                                  have n3_ := Aside0.mk (Kd.V_afterv (ok := (fun k_ => (P0_ k_ ∨ w.heap.size ≤ k_))) (by (with_reducible repeat (first | apply Kd.V_alloc | apply Kd.V_drewN | apply Kd.V_drew)); exact HL76026_5.out) hg hat)
                                                  have n4_ := Aside0.mk (Kd.V_afterv (ok := (fun k_ => (P0_ k_ ∨ w.heap.size ≤ k_))) (by (with_reducible repeat (first | apply Kd.V_alloc | apply Kd.V_drewN | apply Kd.V_drew)); exact HO76034.out) hg hat)
                                                  have n5_ := Aside0.mk (Kd.V_afterv (ok := (fun k_ => (P0_ k_ ∨ w.heap.size ≤ k_))) (by (with_reducible repeat (first | apply Kd.V_alloc | apply Kd.V_drewN | apply Kd.V_drew)); exact HO76042.out) hg hat)
                                                  have n6_ := Aside0.mk (hb)
                                                  have n7_ := Aside0.mk (ho)
                                                  clear HO_0
                                                  clear HL76024_5
                                                  clear HL76025_5
                                                  clear HL76026_5
                                                  clear HO76034
                                                  clear HO76042
                                                  clear HB
                                                  clear HO76029
                                                  have HO_0 := n0_
                                                  have HL76024_5 := n1_
                                                  have HL76025_5 := n2_
                                                  have HL76026_5 := n3_
                                                  have HO76034 := n4_
                                                  have HO76042 := n5_
                                                  have HB := n6_
                                                  have HO76037 := n7_
                                                  clear n0_ n1_ n2_ n3_ n4_ n5_ n6_ n7_
                                                  clear ho hb hg hat
                                                  refine hK.out _ _ trivial (fun hHeld => ?_)
                                                  clear hK K
                                                  refine norm_ (a' := ?_) ?_ ?_
                                                  rotate_left
                                                  · show Act.put _ (some 90) _ = _
                                                    simp only [Act.put, List.setIfInBounds_toArray, List.set_cons_zero, List.set_cons_succ, i64_w, i32_w]
                                                    rfl
                                                  refine one_ (i := 9) (N := some 95) #[true, true, true, true, true, true, true, true, true, true, false, false] rfl rfl (one_of HT_.out (by kernel_rfl)) (by decide) (fun K hK => ?_)
                                                  refine Kd.N_append_rows_step k59 (w0 := w) w.heap.size (by rfl) (.tmp 90) (.tmp 94) 53 59 (.agg #[(.int .i64 0), (.int .i64 0), (.int .i64 0), (.int .i64 0), (.int .i64 0), (.slice none 0 0)]) 64 rfl Try.underlying53 info59 rfl (by decide) (by omega) v76036 y76035 y76038 _ _ _ (fun k_ => (P0_ k_ ∨ w.heap.size ≤ k_)) (fun k_ => ((fun k_ => (P0_ k_ ∨ w.heap.size ≤ k_))) k_ ∧ some k_ ≠ (v76036 : Value).ownBlock) rfl rfl ?aO ?aR (fun _ hk => hk) ?aF ?aB ?aS ?aL ?_
                                                  (case aR => exact (by skip; exact Kd.V_F (Kd.V_mono (ok' := (fun k_ => ((fun k_ => (P0_ k_ ∨ w.heap.size ≤ k_))) k_ ∧ some k_ ≠ (v76036 : Value).ownBlock)) (HO76042.out) (fun k_ hk => ⟨hk.1, hk.2⟩))))
                                                  (case aB => exact (by repeat (first | (with_reducible first | exact HB.out | apply below_alloc | apply pw_below_drewN | apply below_drew1) | exact HB.out)))
                                                  (case aF => exact (fun k_ hk => (.inr (Nat.le_trans (below_size (by repeat (first | (with_reducible first | exact HB.out | apply below_alloc | apply pw_below_drewN | apply below_drew1) | exact HB.out))) hk))))
                                                  (case aO => exact (by (with_reducible repeat (first | apply Kd.N_alloc | apply Kd.N_drewN | apply Kd.N_drew)); exact HO76037.out))
                                                  (case aS => exact (below_size (by repeat (first | (with_reducible first | exact HB.out | apply below_alloc | apply pw_below_drewN | apply below_drew1) | exact HB.out))))
                                                  (case aL => have := LMc44.out; omega)
                                                  intro v76044 w51 ho hb hg hat
                                                  rw [← Ny76043.out] at ho
                                                  have n0_ := Aside0.mk (Kd.V_afterv (ok := (fun k_ => (P0_ k_ ∨ w.heap.size ≤ k_))) (by (with_reducible repeat (first | apply Kd.V_alloc | apply Kd.V_drewN | apply Kd.V_drew)); exact HO_0.out) hg hat)
                                                  have n1_ := Aside0.mk (Kd.V_afterv (ok := (fun k_ => (P0_ k_ ∨ w.heap.size ≤ k_))) (by (with_reducible repeat (first | apply Kd.V_alloc | apply Kd.V_drewN | apply Kd.V_drew)); exact HL76024_5.out) hg hat)
                                                  have n2_ := Aside0.mk (Kd.V_afterv (ok := (fun k_ => (P0_ k_ ∨ w.heap.size ≤ k_))) (by (with_reducible repeat (first | apply Kd.V_alloc | apply Kd.V_drewN | apply Kd.V_drew)); exact HL76025_5.out) hg hat)
                                                  have n3_ := Aside0.mk (Kd.V_afterv (ok := (fun k_ => (P0_ k_ ∨ w.heap.size ≤ k_))) (by (with_reducible repeat (first | apply Kd.V_alloc | apply Kd.V_drewN | apply Kd.V_drew)); exact HL76026_5.out) hg hat)
                                                  have n4_ := Aside0.mk (Kd.V_afterv (ok := (fun k_ => (P0_ k_ ∨ w.heap.size ≤ k_))) (by (with_reducible repeat (first | apply Kd.V_alloc | apply Kd.V_drewN | apply Kd.V_drew)); exact HO76034.out) hg hat)
                                                  have n5_ := Aside0.mk (Kd.V_afterv (ok := (fun k_ => (P0_ k_ ∨ w.heap.size ≤ k_))) (by (with_reducible repeat (first | apply Kd.V_alloc | apply Kd.V_drewN | apply Kd.V_drew)); exact HO76042.out) hg hat)
                                                  have n6_ := Aside0.mk (hb)
                                                  have n7_ := Aside0.mk (ho)
                                                  clear HO_0
                                                  clear HL76024_5
                                                  clear HL76025_5
                                                  clear HL76026_5
                                                  clear HO76034
                                                  clear HO76042
                                                  clear HB
                                                  clear HO76037
                                                  have HO_0 := n0_
                                                  have HL76024_5 := n1_
                                                  have HL76025_5 := n2_
                                                  have HL76026_5 := n3_
                                                  have HO76034 := n4_
                                                  have HO76042 := n5_
                                                  have HB := n6_
                                                  have HO76045 := n7_
                                                  clear n0_ n1_ n2_ n3_ n4_ n5_ n6_ n7_
                                                  clear ho hb hg hat
                                                  refine hK.out _ _ trivial (fun hHeld => ?_)
                                                  clear hK K
                                                  refine norm_ (a' := ?_) ?_ ?_
                                                  rotate_left
                                                  · show Act.put _ (some 95) _ = _
                                                    simp only [Act.put, List.setIfInBounds_toArray, List.set_cons_zero, List.set_cons_succ, i64_w, i32_w]
                                                    rfl
                                                  refine pure_ (i := 10) (N := some 2) (v := ?_) (a' := ?_) #[true, true, true, true, true, true, true, true, true, true, true, false] rfl rfl (any_of HT_.out (by kernel_rfl)) (fun _ _ _ h => h) (Or.inl ⟨by rfl, ?_⟩) ?_ ?_
                                                  rotate_left
                                                  · intro w'
                                                    go_simp
                                                    with_reducible rfl
                                                  rotate_left
                                                  · simp only [Act.put, List.setIfInBounds_toArray, List.set_cons_zero, List.set_cons_succ, i64_w, i32_w]
                                                    rfl
                                                  refine pure_ (i := 11) (N := some 3) (v := ?_) (a' := ?_) #[true, true, true, true, true, true, true, true, true, true, true, true] rfl rfl (any_of HT_.out (by kernel_rfl)) (fun _ _ _ h => h) (Or.inl ⟨by rfl, ?_⟩) ?_ ?_
                                                  rotate_left
                                                  · intro w'
                                                    go_simp
                                                    with_reducible rfl
                                                  rotate_left
                                                  · simp only [Act.put, List.setIfInBounds_toArray, List.set_cons_zero, List.set_cons_succ, i64_w, i32_w]
                                                    rfl
                                                  refine done_ (done_of HT_.out (by kernel_rfl)) ?_
                                                  try go_wp2
                                                  go_ret2
                                                  exact ⟨_, by first | rfl | (simp [errW_none, errW_some] <;> rfl) | (simp only [← hji5, ← hji31, ← hji35, ← hji41]; first | rfl | (simp [errW_none, errW_some] <;> rfl)) | (simp [*, errW_none, errW_some] <;> rfl), Kd.N_V (by (with_reducible repeat (first | apply Kd.N_alloc | apply Kd.N_drewN | apply Kd.N_drew)); exact HO76045.out), by repeat (first | (with_reducible first | exact HB.out | apply below_alloc | apply pw_below_drewN | apply below_drew1) | exact HB.out)⟩
                                                · rw [if_neg c44] at H
                                                  exact absurd H (by simp)
                                              · rw [if_neg c43] at H
                                                exact absurd H (by simp)
                                            · rw [if_neg c42] at H
                                              exact absurd H (by simp)
                                          · rw [if_neg c40] at H
                                            exact absurd H (by simp)
                                        · rw [if_neg c39] at H
                                          exact absurd H (by simp)
                                      · rw [if_neg c37] at H
                                        have c37b0 : (((rd_T59 l0 (ji35)).f0) == 1) = false := beq_eq_false_iff_ne.mpr c37
                                        have c37b1 : (((rd_T59 l0 (ji35)).f0) != 1) = true := bne_iff_ne.mpr c37
                                        have H' := Aside0.mk H
                                        clear H
                                        have p76024 : 0 ≤ (x4_1 : Int) := of_decide_eq_true (by first | (with_reducible assumption) | assumption)
                                        have q76024 : x4_1 < (l0.length : Int) := of_decide_eq_true (by first | (with_reducible assumption) | assumption)
                                        obtain ⟨ad76024, A76024_5, c76024_5, e76024, hx76024_0, hx76024_1, hx76024_2, hx76024_3, hx76024_4, hx76024_5, hl76024_5, hi76024_5⟩ := at_T59 (Kd.V_reads' HO_0.out).2.2 x4_1 p76024 q76024
                                        obtain rfl : ad76001 = ad76024 := (by injection e76024)
                                        obtain ⟨ce76024, hce76024, hMe76024, hcc76024⟩ := Kd.V_get HO_0.out z59 x4_1 p76024 (by first | exact q76024 | exact of_decide_eq_true (by first | (with_reducible assumption) | assumption) | (have e_ := (Kd.V_reads' HO_0.out).1; omega))
                                        obtain ⟨ua76024_5, uc76024_5, rfl, ul76024_5, ge76024_5⟩ := k59_openF hMe76024
                                        have hv76024_5 := hcc76024 5 _ rfl
                                        rw [add_field _ _ 5 (by omega)] at hv76024_5
                                        replace hv76024_5 := Option.some.inj (hv76024_5.symm.trans hx76024_5)
                                        injection hv76024_5 with hva_ hvn_ hvc_
                                        rw [hva_] at ge76024_5
                                        rw [hvc_] at ul76024_5
                                        have HL76024_5 := Aside0.mk (show Kd.V (Kd.int .i64) 3 _ w.heap.size _ _ ((rd_T59 l0 x4_1).f2) from Kd.V_mk ul76024_5 ge76024_5)
                                        clear hva_ hvn_ hvc_ ge76024_5 ul76024_5
                                        clear hcc76024 hce76024
                                        have HR76024_5 := Aside0.mk hi76024_5
                                        have HC76024_5 := Aside0.mk hl76024_5
                                        clear hi76024_5 hl76024_5
                                        replace p76024 := eq_true p76024
                                        replace q76024 := eq_true q76024
                                        have p76025 : 0 ≤ ((ji31) : Int) := of_decide_eq_true (by first | (with_reducible assumption) | assumption)
                                        have q76025 : (ji31) < (l0.length : Int) := of_decide_eq_true (by first | (with_reducible assumption) | assumption)
                                        obtain ⟨ad76025, A76025_5, c76025_5, e76025, hx76025_0, hx76025_1, hx76025_2, hx76025_3, hx76025_4, hx76025_5, hl76025_5, hi76025_5⟩ := at_T59 (Kd.V_reads' HO_0.out).2.2 (ji31) p76025 q76025
                                        obtain rfl : ad76001 = ad76025 := (by injection e76025)
                                        obtain ⟨ce76025, hce76025, hMe76025, hcc76025⟩ := Kd.V_get HO_0.out z59 (ji31) p76025 (by first | exact q76025 | exact of_decide_eq_true (by first | (with_reducible assumption) | assumption) | (have e_ := (Kd.V_reads' HO_0.out).1; omega))
                                        obtain ⟨ua76025_5, uc76025_5, rfl, ul76025_5, ge76025_5⟩ := k59_openF hMe76025
                                        have hv76025_5 := hcc76025 5 _ rfl
                                        rw [add_field _ _ 5 (by omega)] at hv76025_5
                                        replace hv76025_5 := Option.some.inj (hv76025_5.symm.trans hx76025_5)
                                        injection hv76025_5 with hva_ hvn_ hvc_
                                        rw [hva_] at ge76025_5
                                        rw [hvc_] at ul76025_5
                                        have HL76025_5 := Aside0.mk (show Kd.V (Kd.int .i64) 3 _ w.heap.size _ _ ((rd_T59 l0 (ji31)).f2) from Kd.V_mk ul76025_5 ge76025_5)
                                        clear hva_ hvn_ hvc_ ge76025_5 ul76025_5
                                        clear hcc76025 hce76025
                                        have HR76025_5 := Aside0.mk hi76025_5
                                        have HC76025_5 := Aside0.mk hl76025_5
                                        clear hi76025_5 hl76025_5
                                        replace p76025 := eq_true p76025
                                        replace q76025 := eq_true q76025
                                        have p76026 : 0 ≤ ((ji35) : Int) := of_decide_eq_true (by first | (with_reducible assumption) | assumption)
                                        have q76026 : (ji35) < (l0.length : Int) := of_decide_eq_true (by first | (with_reducible assumption) | assumption)
                                        obtain ⟨ad76026, A76026_5, c76026_5, e76026, hx76026_0, hx76026_1, hx76026_2, hx76026_3, hx76026_4, hx76026_5, hl76026_5, hi76026_5⟩ := at_T59 (Kd.V_reads' HO_0.out).2.2 (ji35) p76026 q76026
                                        obtain rfl : ad76001 = ad76026 := (by injection e76026)
                                        obtain ⟨ce76026, hce76026, hMe76026, hcc76026⟩ := Kd.V_get HO_0.out z59 (ji35) p76026 (by first | exact q76026 | exact of_decide_eq_true (by first | (with_reducible assumption) | assumption) | (have e_ := (Kd.V_reads' HO_0.out).1; omega))
                                        obtain ⟨ua76026_5, uc76026_5, rfl, ul76026_5, ge76026_5⟩ := k59_openF hMe76026
                                        have hv76026_5 := hcc76026 5 _ rfl
                                        rw [add_field _ _ 5 (by omega)] at hv76026_5
                                        replace hv76026_5 := Option.some.inj (hv76026_5.symm.trans hx76026_5)
                                        injection hv76026_5 with hva_ hvn_ hvc_
                                        rw [hva_] at ge76026_5
                                        rw [hvc_] at ul76026_5
                                        have HL76026_5 := Aside0.mk (show Kd.V (Kd.int .i64) 3 _ w.heap.size _ _ ((rd_T59 l0 (ji35)).f2) from Kd.V_mk ul76026_5 ge76026_5)
                                        clear hva_ hvn_ hvc_ ge76026_5 ul76026_5
                                        clear hcc76026 hce76026
                                        have HR76026_5 := Aside0.mk hi76026_5
                                        have HC76026_5 := Aside0.mk hl76026_5
                                        clear hi76026_5 hl76026_5
                                        replace p76026 := eq_true p76026
                                        replace q76026 := eq_true q76026
                                        go_wp2
                                        go_roundg kj6
                                        case measure => have := HK1.out; have := HJ6.out; omega
                                        case rel => exact ⟨(wrap64 (x4_1 + 1)), (by first | rfl | (simp; done) | (simp [*]; done)), H', ⟨by have := HK1.out; have := HJ6.out; omega⟩, ⟨by (with_reducible repeat (first | apply Kd.V_alloc | apply Kd.V_drewN | apply Kd.V_drew)); exact HO_0.out⟩, ⟨by repeat (first | (with_reducible first | exact HB.out | apply below_alloc | apply pw_below_drewN | apply below_drew1) | exact HB.out)⟩⟩
                                    · rw [if_neg c36] at H
                                      exact absurd H (by simp)
                                  · rw [if_neg c34] at H
                                    have c34b0 : (((rd_T59 l0 (ji31)).f0) == 1) = false := beq_eq_false_iff_ne.mpr c34
                                    have c34b1 : (((rd_T59 l0 (ji31)).f0) != 1) = true := bne_iff_ne.mpr c34
                                    have H' := Aside0.mk H
                                    clear H
                                    have p76024 : 0 ≤ (x4_1 : Int) := of_decide_eq_true (by first | (with_reducible assumption) | assumption)
                                    have q76024 : x4_1 < (l0.length : Int) := of_decide_eq_true (by first | (with_reducible assumption) | assumption)
                                    obtain ⟨ad76024, A76024_5, c76024_5, e76024, hx76024_0, hx76024_1, hx76024_2, hx76024_3, hx76024_4, hx76024_5, hl76024_5, hi76024_5⟩ := at_T59 (Kd.V_reads' HO_0.out).2.2 x4_1 p76024 q76024
                                    obtain rfl : ad76001 = ad76024 := (by injection e76024)
                                    obtain ⟨ce76024, hce76024, hMe76024, hcc76024⟩ := Kd.V_get HO_0.out z59 x4_1 p76024 (by first | exact q76024 | exact of_decide_eq_true (by first | (with_reducible assumption) | assumption) | (have e_ := (Kd.V_reads' HO_0.out).1; omega))
                                    obtain ⟨ua76024_5, uc76024_5, rfl, ul76024_5, ge76024_5⟩ := k59_openF hMe76024
                                    have hv76024_5 := hcc76024 5 _ rfl
                                    rw [add_field _ _ 5 (by omega)] at hv76024_5
                                    replace hv76024_5 := Option.some.inj (hv76024_5.symm.trans hx76024_5)
                                    injection hv76024_5 with hva_ hvn_ hvc_
                                    rw [hva_] at ge76024_5
                                    rw [hvc_] at ul76024_5
                                    have HL76024_5 := Aside0.mk (show Kd.V (Kd.int .i64) 3 _ w.heap.size _ _ ((rd_T59 l0 x4_1).f2) from Kd.V_mk ul76024_5 ge76024_5)
                                    clear hva_ hvn_ hvc_ ge76024_5 ul76024_5
                                    clear hcc76024 hce76024
                                    have HR76024_5 := Aside0.mk hi76024_5
                                    have HC76024_5 := Aside0.mk hl76024_5
                                    clear hi76024_5 hl76024_5
                                    replace p76024 := eq_true p76024
                                    replace q76024 := eq_true q76024
                                    have p76025 : 0 ≤ ((ji31) : Int) := of_decide_eq_true (by first | (with_reducible assumption) | assumption)
                                    have q76025 : (ji31) < (l0.length : Int) := of_decide_eq_true (by first | (with_reducible assumption) | assumption)
                                    obtain ⟨ad76025, A76025_5, c76025_5, e76025, hx76025_0, hx76025_1, hx76025_2, hx76025_3, hx76025_4, hx76025_5, hl76025_5, hi76025_5⟩ := at_T59 (Kd.V_reads' HO_0.out).2.2 (ji31) p76025 q76025
                                    obtain rfl : ad76001 = ad76025 := (by injection e76025)
                                    obtain ⟨ce76025, hce76025, hMe76025, hcc76025⟩ := Kd.V_get HO_0.out z59 (ji31) p76025 (by first | exact q76025 | exact of_decide_eq_true (by first | (with_reducible assumption) | assumption) | (have e_ := (Kd.V_reads' HO_0.out).1; omega))
                                    obtain ⟨ua76025_5, uc76025_5, rfl, ul76025_5, ge76025_5⟩ := k59_openF hMe76025
                                    have hv76025_5 := hcc76025 5 _ rfl
                                    rw [add_field _ _ 5 (by omega)] at hv76025_5
                                    replace hv76025_5 := Option.some.inj (hv76025_5.symm.trans hx76025_5)
                                    injection hv76025_5 with hva_ hvn_ hvc_
                                    rw [hva_] at ge76025_5
                                    rw [hvc_] at ul76025_5
                                    have HL76025_5 := Aside0.mk (show Kd.V (Kd.int .i64) 3 _ w.heap.size _ _ ((rd_T59 l0 (ji31)).f2) from Kd.V_mk ul76025_5 ge76025_5)
                                    clear hva_ hvn_ hvc_ ge76025_5 ul76025_5
                                    clear hcc76025 hce76025
                                    have HR76025_5 := Aside0.mk hi76025_5
                                    have HC76025_5 := Aside0.mk hl76025_5
                                    clear hi76025_5 hl76025_5
                                    replace p76025 := eq_true p76025
                                    replace q76025 := eq_true q76025
                                    go_wp2
                                    go_roundg kj6
                                    case measure => have := HK1.out; have := HJ6.out; omega
                                    case rel => exact ⟨(wrap64 (x4_1 + 1)), (by first | rfl | (simp; done) | (simp [*]; done)), H', ⟨by have := HK1.out; have := HJ6.out; omega⟩, ⟨by (with_reducible repeat (first | apply Kd.V_alloc | apply Kd.V_drewN | apply Kd.V_drew)); exact HO_0.out⟩, ⟨by repeat (first | (with_reducible first | exact HB.out | apply below_alloc | apply pw_below_drewN | apply below_drew1) | exact HB.out)⟩⟩
                                · rw [if_neg c33] at H
                                  exact absurd H (by simp)
                              · rw [if_neg c32] at H
                                exact absurd H (by simp)
                            · rw [if_neg c30] at H
                              have c30b0 : (((rd_T59 l0 x4_1).f0) == ((rd_T59 l0 (ji5)).f0)) = false := by simpa using c30
                              (try (have c30b1 : decide (((rd_T59 l0 x4_1).f0) = ((rd_T59 l0 (ji5)).f0)) = false := by simpa using c30))
                              (try (have c30b2 : (((rd_T59 l0 x4_1).f0) == ((rd_T59 l0 (ji5)).f0)) = false := by simpa using c30))
                              (try (have c30b3 : ¬ (((rd_T59 l0 x4_1).f0) = ((rd_T59 l0 (ji5)).f0)) := by simpa using c30))
                              clear c30
                              have H' := Aside0.mk H
                              clear H
                              have p76024 : 0 ≤ (x4_1 : Int) := of_decide_eq_true (by first | (with_reducible assumption) | assumption)
                              have q76024 : x4_1 < (l0.length : Int) := of_decide_eq_true (by first | (with_reducible assumption) | assumption)
                              obtain ⟨ad76024, A76024_5, c76024_5, e76024, hx76024_0, hx76024_1, hx76024_2, hx76024_3, hx76024_4, hx76024_5, hl76024_5, hi76024_5⟩ := at_T59 (Kd.V_reads' HO_0.out).2.2 x4_1 p76024 q76024
                              obtain rfl : ad76001 = ad76024 := (by injection e76024)
                              obtain ⟨ce76024, hce76024, hMe76024, hcc76024⟩ := Kd.V_get HO_0.out z59 x4_1 p76024 (by first | exact q76024 | exact of_decide_eq_true (by first | (with_reducible assumption) | assumption) | (have e_ := (Kd.V_reads' HO_0.out).1; omega))
                              obtain ⟨ua76024_5, uc76024_5, rfl, ul76024_5, ge76024_5⟩ := k59_openF hMe76024
                              have hv76024_5 := hcc76024 5 _ rfl
                              rw [add_field _ _ 5 (by omega)] at hv76024_5
                              replace hv76024_5 := Option.some.inj (hv76024_5.symm.trans hx76024_5)
                              injection hv76024_5 with hva_ hvn_ hvc_
                              rw [hva_] at ge76024_5
                              rw [hvc_] at ul76024_5
                              have HL76024_5 := Aside0.mk (show Kd.V (Kd.int .i64) 3 _ w.heap.size _ _ ((rd_T59 l0 x4_1).f2) from Kd.V_mk ul76024_5 ge76024_5)
                              clear hva_ hvn_ hvc_ ge76024_5 ul76024_5
                              clear hcc76024 hce76024
                              have HR76024_5 := Aside0.mk hi76024_5
                              have HC76024_5 := Aside0.mk hl76024_5
                              clear hi76024_5 hl76024_5
                              replace p76024 := eq_true p76024
                              replace q76024 := eq_true q76024
                              go_wp2
                              go_roundg kj6
                              case measure => have := HK1.out; have := HJ6.out; omega
                              case rel => exact ⟨(wrap64 (x4_1 + 1)), (by first | rfl | (simp; done) | (simp [*]; done)), H', ⟨by have := HK1.out; have := HJ6.out; omega⟩, ⟨by (with_reducible repeat (first | apply Kd.V_alloc | apply Kd.V_drewN | apply Kd.V_drew)); exact HO_0.out⟩, ⟨by repeat (first | (with_reducible first | exact HB.out | apply below_alloc | apply pw_below_drewN | apply below_drew1) | exact HB.out)⟩⟩
                          · rw [if_neg c29] at H
                            have c29b0 : (((rd_T59 l0 x4_1).f0) == 1) = false := beq_eq_false_iff_ne.mpr c29
                            have c29b1 : (((rd_T59 l0 x4_1).f0) != 1) = true := bne_iff_ne.mpr c29
                            have H' := Aside0.mk H
                            clear H
                            have p76024 : 0 ≤ (x4_1 : Int) := of_decide_eq_true (by first | (with_reducible assumption) | assumption)
                            have q76024 : x4_1 < (l0.length : Int) := of_decide_eq_true (by first | (with_reducible assumption) | assumption)
                            obtain ⟨ad76024, A76024_5, c76024_5, e76024, hx76024_0, hx76024_1, hx76024_2, hx76024_3, hx76024_4, hx76024_5, hl76024_5, hi76024_5⟩ := at_T59 (Kd.V_reads' HO_0.out).2.2 x4_1 p76024 q76024
                            obtain rfl : ad76001 = ad76024 := (by injection e76024)
                            obtain ⟨ce76024, hce76024, hMe76024, hcc76024⟩ := Kd.V_get HO_0.out z59 x4_1 p76024 (by first | exact q76024 | exact of_decide_eq_true (by first | (with_reducible assumption) | assumption) | (have e_ := (Kd.V_reads' HO_0.out).1; omega))
                            obtain ⟨ua76024_5, uc76024_5, rfl, ul76024_5, ge76024_5⟩ := k59_openF hMe76024
                            have hv76024_5 := hcc76024 5 _ rfl
                            rw [add_field _ _ 5 (by omega)] at hv76024_5
                            replace hv76024_5 := Option.some.inj (hv76024_5.symm.trans hx76024_5)
                            injection hv76024_5 with hva_ hvn_ hvc_
                            rw [hva_] at ge76024_5
                            rw [hvc_] at ul76024_5
                            have HL76024_5 := Aside0.mk (show Kd.V (Kd.int .i64) 3 _ w.heap.size _ _ ((rd_T59 l0 x4_1).f2) from Kd.V_mk ul76024_5 ge76024_5)
                            clear hva_ hvn_ hvc_ ge76024_5 ul76024_5
                            clear hcc76024 hce76024
                            have HR76024_5 := Aside0.mk hi76024_5
                            have HC76024_5 := Aside0.mk hl76024_5
                            clear hi76024_5 hl76024_5
                            replace p76024 := eq_true p76024
                            replace q76024 := eq_true q76024
                            go_wp2
                            go_roundg kj6
                            case measure => have := HK1.out; have := HJ6.out; omega
                            case rel => exact ⟨(wrap64 (x4_1 + 1)), (by first | rfl | (simp; done) | (simp [*]; done)), H', ⟨by have := HK1.out; have := HJ6.out; omega⟩, ⟨by (with_reducible repeat (first | apply Kd.V_alloc | apply Kd.V_drewN | apply Kd.V_drew)); exact HO_0.out⟩, ⟨by repeat (first | (with_reducible first | exact HB.out | apply below_alloc | apply pw_below_drewN | apply below_drew1) | exact HB.out)⟩⟩
                        · rw [if_neg c28] at H
                          exact absurd H (by simp)
                      · rw [if_neg c27] at H
                        exact absurd H (by simp)
                    · rw [if_neg c26] at H
                      have c26b0 : decide ((wrap64 (x4_1 + 3)) < (l0.length : Int)) = false := decide_eq_false c26
                      clear c26
                      have H' := Aside0.mk H
                      clear H
                      go_wp2
                      go_roundg kj6
                      case measure => have := HK1.out; have := HJ6.out; omega
                      case rel => exact ⟨(wrap64 (x4_1 + 1)), (by first | rfl | (simp; done) | (simp [*]; done)), H', ⟨by have := HK1.out; have := HJ6.out; omega⟩, ⟨by (with_reducible repeat (first | apply Kd.V_alloc | apply Kd.V_drewN | apply Kd.V_drew)); exact HO_0.out⟩, ⟨by repeat (first | (with_reducible first | exact HB.out | apply below_alloc | apply pw_below_drewN | apply below_drew1) | exact HB.out)⟩⟩
            · rw [if_neg c6] at H
              exact absurd H (by simp)
          · rw [if_neg c4] at H
            exact absurd H (by simp)
        · rw [if_neg c3] at H
          exact absurd H (by simp)
      · rw [if_neg c2] at H
        have c2b0 : decide ((wrap64 (x4_1 + 1)) < (l0.length : Int)) = false := decide_eq_false c2
        clear c2
        simp only [Option.some.injEq, Prod.mk.injEq] at H
        obtain ⟨rfl, rfl⟩ := H
        go_wp2
        go_ret2
        exact ⟨_, by first | rfl | (simp [errW_none, errW_some] <;> rfl) | (simp [*, errW_none, errW_some] <;> rfl), by (with_reducible repeat (first | apply Kd.V_alloc | apply Kd.V_drewN | apply Kd.V_drew)); exact HO_0.out, by repeat (first | (with_reducible first | exact HB.out | apply below_alloc | apply pw_below_drewN | apply below_drew1) | exact HB.out)⟩


def spec_copyInts.f (l0 : List Int) : Option (List Int) := (some (([] : List Int) : List Int)).bind fun y75001 => (if y75001.length + l0.length < 17592186044416 then (some (y75001 ++ l0)) else (none))
set_option maxHeartbeats 8000000 in
set_option maxRecDepth 100000 in
theorem spec_copyInts.calls (A0 : Option Addr) (c0 : Nat) (l0 : List Int) (r : List Int) (w : World) (hr0 : Kd.C (Kd.int .i64) w A0 l0.length l0) (hc0 : l0.length ≤ c0) (h : spec_copyInts.f l0 = some r) :
    Calls Try.prog 74 #[.slice A0 l0.length c0] w fun e w' => ∃ v0_ : Value, e = .returned (v0_) ∧ Kd.R (Kd.int .i64) 3 w' w.heap.size (fun _ => True) v0_ r ∧ Below w.heap.size w w' := by
  have HR0 := Aside0.mk hr0
  have HC0 := Aside0.mk hc0
  clear hr0 hc0
  have HB := Aside0.mk (Below.refl w.heap.size w)
  have H : ((some (([] : List Int) : List Int)).bind fun y75001 => (if y75001.length + l0.length < 17592186044416 then (some (y75001 ++ l0)) else (none))) = some r := h
  clear h
  obtain ⟨y75001, hy75001⟩ : ∃ y_ : List Int, y_ = (([] : List Int)) := ⟨_, rfl⟩
  replace H : (if y75001.length + l0.length < 17592186044416 then (some (y75001 ++ l0)) else (none)) = some r := by first | (rw [hy75001]; with_reducible exact H) | (have H2_ := (Option.bind_some _ _).symm.trans H; rw [hy75001]; with_reducible exact H2_) | (have H2_ := (Option.bind_some _ _).symm.trans H; with_reducible exact H2_) | with_reducible exact H | (rw [hy75001]; exact H) | exact H
  have Ny75001 := Aside0.mk hy75001
  clear hy75001
  by_cases c2 : y75001.length + l0.length < 17592186044416
  · rw [if_pos c2] at H
    have LMc2 := Aside0.mk c2
    clear c2
    obtain ⟨y75004, hy75004⟩ : ∃ y_ : List Int, y_ = (y75001 ++ l0) := ⟨_, rfl⟩
    replace H : (some y75004) = some r := by first | (rw [hy75004]; with_reducible exact H) | (have H2_ := (Option.bind_some _ _).symm.trans H; rw [hy75004]; with_reducible exact H2_) | (have H2_ := (Option.bind_some _ _).symm.trans H; with_reducible exact H2_) | with_reducible exact H | (rw [hy75004]; exact H) | exact H
    have Ny75004 := Aside0.mk hy75004
    clear hy75004
    obtain rfl := Option.some.inj H
    go_enter Try.func74, Try.ntmps74
    go_wp2_with (first | ((with_reducible refine gate_dst (N := 3) rfl ?_); refine Kd.R_lit (Kd.int .i64) _ 3 ?hg (N := 3) ?hd (xs := ([] : List Int)) (inner := []) (ok := fun _ => True) (okp := fun _ => True) ?hr ?hp (fun _ hk => hk) trivial (Below.refl _ _) (Nat.le_refl _) (by simp) ?_; (case hd => rfl); (case hg => rfl); (case hr => first | (go_simp; done) | (go_simp; rfl)); (case hp => exact (Reps.none _ _)); intro v75002 w3 ho4 hb hg_ hnew_; clear hg_ hnew_; (first | rw [← Ny75001.out] at ho4 | (simp only [Int.reduceToNat] at ho4; rw [← Ny75001.out] at ho4)); have n0_ := Aside0.mk (Kd.R_lower ho4 (below_size (by repeat (first | (with_reducible first | exact HB.out | apply below_alloc | apply pw_below_drewN | apply below_drew1) | exact HB.out)))); have n1_ := Aside0.mk (below_step (by repeat (first | (with_reducible first | exact HB.out | apply below_alloc | apply pw_below_drewN | apply below_drew1) | exact HB.out)) hb); clear HB; have HO75003 := n0_; have HB := n1_; clear n0_ n1_; clear hb ho4) | ((with_reducible refine gate_builtin (b := .append) (xs := #[.tmp 3, .tmp 4]) rfl ?_); at_builtin; refine Kd.R_append_rows (Kd.int .i64) (w0 := w) w.heap.size rfl (.tmp 3) (.tmp 4) 57 3 (.int .i64 0) 8 rfl Try.underlying57 info3 rfl (by decide) (by omega) v75002 y75001 l0 _ _ _ (fun _ => True) (fun _ => False) rfl rfl ?aO ?aR (fun _ _ h => h) (fun _ h => h.elim) ?aF ?aB ?aS ?aL ?_; (case aR => repeat (first | exact (Kd.C_below HR0.out HB.out) | (with_reducible refine Kd.C_alloc ?_ _) | (with_reducible refine Kd.C_drewN ?_ _) | (with_reducible refine Kd.C_drew ?_))); (case aB => exact (by repeat (first | (with_reducible first | exact HB.out | apply below_alloc | apply pw_below_drewN | apply below_drew1) | exact HB.out))); (case aF => exact (fun _ _ => trivial)); (case aO => exact (by (with_reducible repeat (first | apply Kd.R_alloc | apply Kd.R_drewN | apply Kd.R_drew)); exact HO75003.out)); (case aS => exact (below_size (by repeat (first | (with_reducible first | exact HB.out | apply below_alloc | apply pw_below_drewN | apply below_drew1) | exact HB.out)))); (case aL => have := LMc2.out; omega); intro v75005 w5 ho hb hg hat; rw [← Ny75004.out] at ho; have n0_ := Aside0.mk (hb); have n1_ := Aside0.mk (ho); clear HB; clear HO75003; have HB := n0_; have HO75006 := n1_; clear n0_ n1_; clear ho hb hg hat))
    go_ret
    exact ⟨_, by first | rfl | (simp [errW_none, errW_some] <;> rfl) | (simp [*, errW_none, errW_some] <;> rfl), by (with_reducible repeat (first | apply Kd.R_alloc | apply Kd.R_drewN | apply Kd.R_drew)); exact HO75006.out, by repeat (first | (with_reducible first | exact HB.out | apply below_alloc | apply pw_below_drewN | apply below_drew1) | exact HB.out)⟩
  · rw [if_neg c2] at H
    exact absurd H (by simp)


/- Words of this session's own hand-made walks: where the first element lies for which a test holds; draws that follow each other. -/

/-- where the first element is for which p holds; -1 -/
def idxF {α : Type} (p : α → Bool) : List α → Int
  | [] => -1
  | x :: xs => if p x then 0 else (let r := idxF p xs; if r < 0 then -1 else r + 1)
theorem idxF_any {α : Type} (p : α → Bool) (l : List α) : decide (idxF p l ≥ 0) = l.any p := by
  induction l with
  | nil => simp [idxF]
  | cons x xs ih =>
    unfold idxF
    by_cases h : p x = true
    · simp [h]
    · simp only [h, List.any_cons, Bool.false_or, ← ih]
      simp only [Bool.false_eq_true, if_false]
      split
      · simp; omega
      · simp; omega
/-- p fails at all that lies before k -/
def SawNone {α : Type} (p : α → Bool) (l : List α) (k : Nat) : Prop := ∀ j, j < k → ∀ h : j < l.length, p l[j] = false
theorem SawNone.succ {α : Type} {p : α → Bool} {l : List α} {k : Nat} (h : SawNone p l k) (hk : k < l.length) (hp : p l[k] = false) : SawNone p l (k + 1) := by
  intro j hj hl
  by_cases e : j = k
  · subst e; exact hp
  · exact h j (by omega) hl
theorem idxF_at {α : Type} (p : α → Bool) (l : List α) (k : Nat) (hk : k < l.length) (hs : SawNone p l k) (hp : p l[k] = true) : idxF p l = k := by
  induction l generalizing k with
  | nil => simp at hk
  | cons x xs ih =>
    unfold idxF
    cases k with
    | zero => simp at hp; simp [hp]
    | succ k =>
      have h0 : p x = false := hs 0 (by omega) (by simp)
      have := ih k (by simpa using hk) (fun j hj h => hs (j + 1) (by omega) (by simpa using h)) (by simpa using hp)
      simp [h0, this]; omega
theorem idxF_none {α : Type} (p : α → Bool) (l : List α) (hs : SawNone p l l.length) : idxF p l = -1 := by
  induction l with
  | nil => rfl
  | cons x xs ih =>
    unfold idxF
    have h0 : p x = false := hs 0 (by simp) (by simp)
    have := ih (fun j hj h => hs (j + 1) (by simpa using hj) (by simpa using h))
    simp [h0, this]
theorem ret_bool {a b : Bool} (h : a = b) : Ending.returned (.bool a) = .returned (.bool b) := by rw [h]

/- impl.cancelling's function value: whether a step is of another kind than the first. -/

def otherKind (l : List S59) (s : S59) : Bool := s.f0 != (rd_T59 l 0).f0
theorem add_zero6 (ad : Addr) : ad.add (Int.toNat 0 * 6) = ad := by unfold Addr.add; simp
set_option maxHeartbeats 1000000 in
theorem cancelCmp (l : List S59) (A : Option Addr) (c : Nat) (x : S59) (A5 : Option Addr) (c5 : Nat) (B : Nat) (W : World) (hl : 0 < l.length) (hc : W.cell? ⟨B, 0, none⟩ = some (.slice A l.length c)) (hr : Kd.C k59 W A l.length l) :
    Calls Try.prog 92 #[.agg #[.int .i64 x.f0, .int .i64 x.f1.f0, .int .i64 x.f1.f1, .int .i64 x.f1.f2, .int .i64 x.f1.f3, .slice A5 x.f2.length c5], .pointer (some ⟨B, 0, none⟩)] W fun e W' => e = .returned (.bool (otherKind l x)) ∧ Below W.heap.size W W' := by
  have hu := Try.underlying53
  have hus := Try.underlying59
  obtain ⟨ad, A6, c6, e, hx0, _, _, _, _, _, _, _⟩ := at_T59 hr 0 (by omega) (by omega)
  subst e
  rw [add_zero6] at hx0
  have hlt := World.block_lt_of_cell? W _ hc
  have hlt2 := World.block_lt_of_cell? W _ hx0
  unfold otherKind
  generalize (rd_T59 l 0).f0 = k0 at *
  clear hr
  go_enter Try.func92, Try.ntmps92
  go_wp2
  go_quiet (fail)
  go_wp2
  go_ret
  exact ⟨rfl, pw_below_drewN ((Below.refl _ _).alloc (Nat.le_refl _) _) _⟩

/- slices.IndexFunc over steps: where the first element lies for which the function value's answer is true. -/

set_option maxHeartbeats 1000000 in
theorem idxFunc_Step (g : Nat) (lb : Array Value) (p : S59 → Bool) (A : Option Addr) (c : Nat) (l : List S59) (w : World)
    (eg : ∀ args W, (callFunc g args).run Try.prog W = .ok (.enter g args) W)
    (hp : ∀ (W : World) (x : S59) (A5 : Option Addr) (c5 : Nat), Below w.heap.size w W → Calls Try.prog g (#[.agg #[.int .i64 x.f0, .int .i64 x.f1.f0, .int .i64 x.f1.f1, .int .i64 x.f1.f2, .int .i64 x.f1.f3, .slice A5 x.f2.length c5]] ++ lb) W fun e W' => e = .returned (.bool (p x)) ∧ Below W.heap.size W W')
    (hr : Kd.C k59 w A l.length l) :
    Calls Try.prog 104 #[.slice A l.length c, .func (.func g) #[] lb] w fun e w' => e = .returned (.int .i64 (idxF p l)) ∧ Below w.heap.size w w' := by
  have hm : l.length ≤ 9223372036854775807 := hr.2.1
  have hu := Try.underlying59
  have HP := Aside0.mk hp
  have HR := Aside0.mk hr
  clear hp hr
  go_enter Try.func104, Try.ntmps104
  go_wp2
  go_loopw [8] (fun v8 W => ∃ k : Nat, v8 = .int .i64 k ∧ k ≤ l.length ∧ SawNone p l k ∧ Aside0 (Below w.heap.size w W)) (fun v8 _ => l.length - (intOf v8).toNat)
  case atStart => exact ⟨0, rfl, by omega, fun j hj => by omega, ⟨Below.refl _ _⟩⟩
  case round =>
    obtain ⟨k, rfl, hk, hs, hd⟩ := hrel
    by_cases hlt : k < l.length
    · obtain ⟨ad, A5, c5, e, hx0, hx1, hx2, hx3, hx4, hx5, l5, g5⟩ := at_T59 (Kd.C_below HR.out hd.out) (k : Int) (by omega) (by omega)
      cases e
      have er : rd_T59 l (k : Int) = l[k] := by simp [rd_T59, hlt]
      rw [er, Int.toNat_natCast] at hx0 hx1 hx2 hx3 hx4 hx5
      clear er l5 g5
      by_cases hv : p l[k] = true
      · have HV := Aside0.mk hv
        have HS := Aside0.mk (idxF_at p l k hlt hs hv)
        clear hv hs
        generalize l[k] = x at *
        go_wp2_with (first | (go_at_fn g; refine (HP.out _ x A5 c5 hd.out).mono ?_; rintro e w' ⟨rfl, hd2⟩; rw [HV.out]; have HB2 := Aside0.mk (below_then hd.out hd.out.size hd2); clear hd2))
        go_ret
        exact ⟨by rw [HS.out]; rfl, HB2.out⟩
      · replace hv : p l[k] = false := by simpa using hv
        have hs' := hs.succ hlt hv
        have HV := Aside0.mk hv
        clear hv hs
        generalize l[k] = x at *
        go_wp2_with (first | (go_at_fn g; refine (HP.out _ x A5 c5 hd.out).mono ?_; rintro e w' ⟨rfl, hd2⟩; rw [HV.out]; have HB2 := Aside0.mk (below_then hd.out hd.out.size hd2); clear hd2))
        go_roundw
        case rel => exact ⟨k + 1, by go_num, by omega, hs', HB2⟩
        case measure => simp [intOf]; omega
    · go_wp2
      go_ret
      have : k = l.length := by omega
      subst this
      exact ⟨by rw [idxF_none p l hs]; rfl, hd.out⟩

/- slices.ContainsFunc over steps. -/

set_option maxHeartbeats 1000000 in
theorem containsFunc_Step (g : Nat) (lb : Array Value) (p : S59 → Bool) (A : Option Addr) (c : Nat) (l : List S59) (w : World)
    (eg : ∀ args W, (callFunc g args).run Try.prog W = .ok (.enter g args) W)
    (hp : ∀ (W : World) (x : S59) (A5 : Option Addr) (c5 : Nat), Below w.heap.size w W → Calls Try.prog g (#[.agg #[.int .i64 x.f0, .int .i64 x.f1.f0, .int .i64 x.f1.f1, .int .i64 x.f1.f2, .int .i64 x.f1.f3, .slice A5 x.f2.length c5]] ++ lb) W fun e W' => e = .returned (.bool (p x)) ∧ Below W.heap.size W W')
    (hr : Kd.C k59 w A l.length l) :
    Calls Try.prog 91 #[.slice A l.length c, .func (.func g) #[] lb] w fun e w' => e = .returned (.bool (l.any p)) ∧ Below w.heap.size w w' := by
  have HP := Aside0.mk hp
  have HR := Aside0.mk hr
  clear hp hr
  go_enter Try.func91, Try.ntmps91
  go_wp2_with (first | (go_at_call 104; refine (idxFunc_Step g lb p _ _ _ _ eg HP.out HR.out).mono ?_; rintro e w' ⟨rfl, hd⟩))
  go_ret
  exact ⟨ret_bool (by first | exact idxF_any p l | (rw [← idxF_any p l])), hd⟩

/- A run of elements taken out of a row of one's own, in place, and the cells behind the row made zero. -/

section
variable {P : Program} {α : Type}
theorem R_cut_run (d : Kd α) {W : World} (base : Nat) (t ty e : TypeId) (i : TypeInfo) (ht : P.underlying t = some (.slice e)) (hi : P.info? e = some i) (hsz : i.size = d.sz)
    {g n c k m : Nat} {xs : List α} {ok : Nat → Prop} (HO : d.R e W base ok (.slice (some ⟨g, 0, none⟩) n c) xs) (hm : 0 < m) (hk : k + m ≤ n) {A : Option Addr} (hA : A = if c = k + m then some ⟨g, 0, none⟩ else (some (⟨g, 0, none⟩ : Addr)).map (·.add ((k + m) * d.sz))) (c2 : Nat) :
    ∃ w1, (Builtin.append_ #[t, t] ty #[.slice (some ⟨g, 0, none⟩) k c, .slice A (n - (k + m)) c2]).run P W = .ok (.slice (some ⟨g, 0, none⟩) (n - m) c) w1 ∧ d.R e w1 base ok (.slice (some ⟨g, 0, none⟩) (n - m) c) (xs.take k ++ xs.drop (k + m)) ∧ W.grownBy w1 (some g) := by
  obtain ⟨hn, hnc, _⟩ := Kd.R_reads' HO
  obtain ⟨hok, inner, hown, hr⟩ := HO
  have hin : inner.length = n * d.sz := by rw [hr.1, hn]
  rcases hown.2 with ⟨hv, _⟩ | ⟨g', cap', cur, hv, hb, hh, _, hcm, hcs, htake⟩
  · cases hv
  injection hv with ha _ hc
  injection ha with ha
  injection ha with hg
  subst hg; subst hc
  rw [← hn] at htake
  obtain ⟨news, hnews⟩ : ∃ news, news = inner.drop ((k + m) * d.sz) := ⟨_, rfl⟩
  have hnl : news.length = (n - (k + m)) * d.sz := by rw [hnews, List.length_drop, hin, Nat.sub_mul]
  have hle : (k + m) * d.sz ≤ n * d.sz := Nat.mul_le_mul_right _ hk
  have hks : (k + m) * d.sz = k * d.sz + m * d.sz := Nat.add_mul _ _ _
  have hnc' : n * d.sz ≤ c * d.sz := Nat.mul_le_mul_right _ hnc
  have hsub : (n - (k + m)) * d.sz = n * d.sz - (k + m) * d.sz := Nat.sub_mul _ _ _
  have hcur : ∀ q, q < n * d.sz → cur.toList[q]? = inner[q]? := by
    intro q hq
    rw [← htake, List.getElem?_take, if_pos hq]
  obtain ⟨a, rfl, hcell⟩ : ∃ a, A = some a ∧ ∀ j u, news[j]? = some u → W.cell? (a.add j) = some u := by
    by_cases hck : c = k + m
    · rw [if_pos hck] at hA
      refine ⟨_, hA, fun j u hu => ?_⟩
      have h0 : news = [] := List.eq_nil_of_length_eq_zero (by rw [hnl, show n - (k + m) = 0 by omega, Nat.zero_mul])
      rw [h0] at hu
      simp at hu
    · rw [if_neg hck, Option.map_some] at hA
      refine ⟨_, hA, fun j u hu => ?_⟩
      have hj : j < news.length := (List.getElem?_eq_some_iff.1 hu).1
      rw [add_add, add_at, cell_of_row W g _ cur e (0, 0) hh, ← Array.getElem?_toList]
      rw [hnews, List.getElem?_drop] at hu
      rw [← hu, Nat.zero_add]
      exact hcur _ (by omega)
  have hone : ∀ u ∈ news, u.oneCell' = true := by
    intro u hu
    have hu' : u ∈ inner := by rw [hnews] at hu; exact List.mem_of_mem_drop hu
    obtain ⟨q, hq, rfl⟩ := List.mem_iff_getElem.1 hu'
    have hs0 : 0 < d.sz := by
      rcases Nat.eq_zero_or_pos d.sz with h | h
      · rw [h, Nat.mul_zero] at hin; omega
      · exact h
    have hql : q / d.sz < xs.length := by
      rw [Nat.div_lt_iff_lt_mul hs0, ← hr.1]
      exact hq
    refine d.K_one (d.K_of_M (hr.2 (q / d.sz) _ (List.getElem?_eq_getElem hql))) _ ?_
    rw [List.mem_iff_getElem?]
    refine ⟨q % d.sz, ?_⟩
    rw [List.getElem?_take, if_pos (Nat.mod_lt _ hs0), List.getElem?_drop, Nat.mul_comm, Nat.div_add_mod, List.getElem?_eq_getElem hq]
  have hfit : 0 + k * d.sz + news.length ≤ cur.size := by omega
  have hrun := run_append_room_cells (P := P) (w := W) t ty e i ht hi g 0 k c a (n - (k + m)) c2 news (by rw [hnl, hsz]) hcell hone (by omega)
    (fun j hj => by rw [hsz, cell_of_row W g _ cur e (0, 0) hh]; simp; omega) (fun j _ => blk_frozen hh _)
  rw [hsz, show k + (n - (k + m)) = n - m by omega] at hrun
  obtain ⟨cur', h3, h4, h5⟩ := setCells_row news (0 + k * d.sz) W cur hh hfit
  obtain ⟨s1, s2, s3, s4⟩ := setCells_same g news (0 + k * d.sz) W
  have hfar : ∀ k', k' ≠ g → (W.setCells g (0 + k * d.sz) news).heap[k']? = W.heap[k']? := fun k' hk' => setCells_far news _ k' hk'
  have hgo : ∀ m, some g = (Value.slice (some ⟨g, 0, none⟩) m c).ownBlock := fun m => by simp [Value.ownBlock]
  have hel : (xs.take k ++ xs.drop (k + m)).length = n - m := by rw [List.length_append, List.length_take, List.length_drop, ← hn]; omega
  refine ⟨_, hrun, ⟨fun k' hk' => hok k' (by rw [← hgo] at hk' ⊢; exact hk'), inner.take (k * d.sz) ++ news, ⟨?_, .inr ⟨g, c, cur', by rw [hel], hb, h3, by rw [hel]; omega, hcm, by rw [h4, hcs], ?_⟩⟩, ?_⟩, ⟨s1, s2, s3, by rw [s4]; exact Nat.le_refl _, fun k' _ hk' => hfar k' (fun he => hk' (by rw [he]))⟩⟩
  · rw [List.length_append, List.length_take, hnl, hel]
    have : (n - m) * d.sz = n * d.sz - m * d.sz := by rw [Nat.sub_mul]
    omega
  · rw [hel, h5, Nat.zero_add]
    have h6 : (n - m) * d.sz = n * d.sz - m * d.sz := by rw [Nat.sub_mul]
    have h7 : cur.toList.take (k * d.sz) = inner.take (k * d.sz) := by
      rw [← htake, List.take_take, Nat.min_eq_left (by omega)]
    rw [h7]
    exact List.take_left' (by rw [List.length_append, List.length_take, hnl]; omega)
  · have hmv : ∀ p q, d.M W base (fun k' => ok k' ∧ some k' ≠ (Value.slice (some ⟨g, 0, none⟩) n c).ownBlock) p q → d.M (W.setCells g (0 + k * d.sz) news) base (fun k' => ok k' ∧ some k' ≠ (Value.slice (some ⟨g, 0, none⟩) (n - m) c).ownBlock) p q := fun p q hp =>
      d.M_mono (fun k' hk' => ⟨hk'.1, by rw [← hgo]; rw [← hgo] at hk'; exact hk'.2⟩) (d.M_move (fun k' hk' => hfar k' (fun he => hk'.2 (by rw [← hgo, he]))) hp)
    subst hnews
    exact Kd.reps_append ((Kd.reps_take hr (by omega)).imp_ hmv) ((Kd.reps_drop hr).imp_ hmv)
theorem R_cut_step {ops : Array Oper} {o : Oper} {a : Act} {Q : Exit → Act → World → Prop} {Kc : Act → World → Prop} (d : Kd α) {w0 W : World} (base : Nat) (hw : Region.wanted o (yielded ops a.tmps) = true) (s x : Operand) (t e : TypeId) (ho : o.op = .call { callee := .builtin .append, args := #[s, x], argTypes := #[t, t] })
    (ht : P.underlying t = some (.slice e)) (hinfo : (P.info? e).map (·.size) = some d.sz) {g n c k j c2 : Nat} {A : Option Addr} {xs : List α} {ok : Nat → Prop}
    (hs : a.eval s = .slice (some ⟨g, 0, none⟩) k c) (hx : a.eval x = .slice A (n - j) c2) (hA : A = if c = j then some ⟨g, 0, none⟩ else (some (⟨g, 0, none⟩ : Addr)).map (·.add (j * d.sz)))
    (HO : d.R e W base ok (.slice (some ⟨g, 0, none⟩) n c) xs) (hk : k < j) (hj : j ≤ n) (HB : Below base w0 W) (hbase : base ≤ W.heap.size)
    (h : ∀ w1, d.R e w1 base ok (.slice (some ⟨g, 0, none⟩) (n - (j - k)) c) (xs.take k ++ xs.drop j) → Below base w0 w1 → W.grownBy w1 (some g) → Kc (a.put o.dst (.slice (some ⟨g, 0, none⟩) (n - (j - k)) c)) w1) :
    if Region.wanted o (yielded ops a.tmps) = true then Oper.wp P o a W Kc Q else Kc (a.put o.dst undef) W := by
  obtain ⟨i0, hi, hsz⟩ := Option.map_eq_some_iff.1 hinfo
  obtain ⟨m, rfl⟩ : ∃ m, j = k + m := ⟨j - k, by omega⟩
  rw [show k + m - k = m by omega] at h
  obtain ⟨w1, hr, h1, h2⟩ := R_cut_run (P := P) d base t o.type e i0 ht hi hsz HO (m := m) (k := k) (by omega) hj hA c2
  rw [if_pos hw]
  unfold Oper.wp execOp
  simp only [ho, resolve, invoke, builtin, Sem.run_bind, Sem.run_pure, Result.andThen_ok, List.map_toArray, List.map_cons, List.map_nil, hs, hx, hr]
  exact h w1 h1 (HB.grown h2 hbase (fun k hk => by injection hk with hk; subst hk; exact Kd.R_base HO _ (by simp [Value.ownBlock]))) h2
theorem R_tail_run (d : Kd α) {W : World} {base g k c m c2 : Nat} {xs : List α} {ok : Nat → Prop} (t e ty : TypeId) (ht : P.underlying t = some (.slice e)) (z : Value) (hz : ∀ w, (zeroValue e).run P w = .ok z w) (hzc : z.cells.size = d.sz) (hs0 : 0 < d.sz) (h1 : ∀ u ∈ z.cells.toList, u.oneCell' = true)
    (HO : d.R e W base ok (.slice (some ⟨g, 0, none⟩) k c) xs) (hm : 0 < m) (hkm : k + m ≤ c) :
    ∃ w1, (Builtin.clear_ #[t] ty #[.slice (some ⟨g, k * d.sz, none⟩) m c2]).run P W = .ok (.tuple #[]) w1 ∧ d.R e w1 base ok (.slice (some ⟨g, 0, none⟩) k c) xs ∧ W.grownBy w1 (some g) := by
  obtain ⟨hn, hnc, _⟩ := Kd.R_reads' HO
  obtain ⟨hok, inner, hown, hr⟩ := HO
  rcases hown.2 with ⟨hv, _⟩ | ⟨g', cap', cur, hv, hb, hh, hle, hcm, hcs, htake⟩
  · cases hv
  injection hv with ha _ hc
  injection ha with ha
  injection ha with hg
  subst hg; subst hc
  obtain ⟨seg, hseg⟩ : ∃ seg, seg = (Builtin.zeroCells z.cells m).toList := ⟨_, rfl⟩
  have hsl : seg.length = m * d.sz := by rw [hseg, Array.length_toList, size_zeroCells, hzc]
  have hone : ∀ u ∈ seg, u.oneCell' = true := by
    intro u hu
    rw [hseg] at hu
    simp only [Builtin.zeroCells, Array.toList_map, List.mem_map] at hu
    obtain ⟨j, _, rfl⟩ := hu
    have hj : j % z.cells.size < z.cells.size := Nat.mod_lt _ (by omega)
    rw [getElem!_pos z.cells _ hj]
    exact h1 _ (by rw [Array.mem_toList_iff]; exact Array.getElem_mem hj)
  have hfit : k * d.sz + seg.length ≤ cur.size := by
    rw [hsl, hcs, ← Nat.add_mul]
    exact Nat.mul_le_mul_right _ hkm
  have hst := run_storeCells_cells (P := P) g (k * d.sz) seg 0 W (fun j hj => by rw [cell_of_row W g _ cur e (0, 0) hh]; simp; omega) (fun j _ => blk_frozen hh _) hone
  simp only [Nat.add_zero] at hst
  obtain ⟨cur', h3, h4, h5⟩ := setCells_row seg (k * d.sz) W cur hh hfit
  obtain ⟨s1, s2, s3, s4⟩ := setCells_same g seg (k * d.sz) W
  have hfar : ∀ k', k' ≠ g → (W.setCells g (k * d.sz) seg).heap[k']? = W.heap[k']? := fun k' hk' => setCells_far seg _ k' hk'
  have hgo : some g = (Value.slice (some ⟨g, 0, none⟩) k c).ownBlock := by simp [Value.ownBlock]
  refine ⟨W.setCells g (k * d.sz) seg, ?_, ⟨hok, inner, ⟨hown.1, .inr ⟨g, c, cur', by rw [hn], hb, h3, hle, hcm, by rw [h4, hcs], ?_⟩⟩, ?_⟩, ⟨s1, s2, s3, by rw [s4]; exact Nat.le_refl _, fun k' _ hk' => hfar k' (fun he => hk' (by rw [he]))⟩⟩
  · obtain ⟨q, rfl⟩ : ∃ q, m = q + 1 := ⟨m - 1, by omega⟩
    simp [Builtin.clear_, run_underlying ht, hz, ← hseg, hst]
  · rw [← htake, h5, ← hn]
    have hcl : cur.toList.length = c * d.sz := by rw [Array.length_toList, hcs]
    have hkc : k * d.sz ≤ c * d.sz := Nat.mul_le_mul_right _ (by omega)
    rw [List.append_assoc, List.take_append_of_le_length (by rw [List.length_take]; omega), List.take_take, Nat.min_self]
  · exact hr.imp_ (fun p q hp => d.M_move (fun k' hk' => hfar k' (fun he => hk'.2 (by rw [← hgo, he]))) hp)
theorem R_tail {ops : Array Oper} {rest : List Oper} {o : Oper} {a : Act} {Q : Exit → Act → World → Prop} (d : Kd α) {w0 W : World} (base : Nat) (hgd : o.guard = none) (x : Operand) (t e : TypeId) (ho : o.op = .call { callee := .builtin .clear, args := #[x], argTypes := #[t] })
    (ht : P.underlying t = some (.slice e)) (z : Value) (hz : ∀ w, (zeroValue e).run P w = .ok z w) (hzc : z.cells.size = d.sz) (hs0 : 0 < d.sz) (h1 : ∀ u ∈ z.cells.toList, u.oneCell' = true) {g k c m c2 : Nat} {xs : List α} {ok : Nat → Prop}
    (hx : a.eval x = .slice (some ⟨g, k * d.sz, none⟩) m c2) (HO : d.R e W base ok (.slice (some ⟨g, 0, none⟩) k c) xs) (hm : 0 < m) (hkm : k + m ≤ c) (HB : Below base w0 W) (hbase : base ≤ W.heap.size)
    (h : ∀ w1, d.R e w1 base ok (.slice (some ⟨g, 0, none⟩) k c) xs → Below base w0 w1 → wpList P ops Q rest (a.put o.dst (.tuple #[])) w1) : wpList P ops Q (o :: rest) a W := by
  obtain ⟨w1, hr, h2, h3⟩ := R_tail_run (P := P) d t e o.type ht z hz hzc hs0 h1 HO hm hkm (c2 := c2)
  refine wpList_plain hgd fun K hK => ?_
  unfold Oper.wp execOp
  simp only [ho, resolve, invoke, builtin, Sem.run_bind, Sem.run_pure, Result.andThen_ok, List.map_toArray, List.map_cons, List.map_nil, hx, hr]
  exact hK _ _ (h w1 h2 (HB.grown h3 hbase (fun k hk => by injection hk with hk; subst hk; exact Kd.R_base HO _ (by simp [Value.ownBlock]))))
end

/- slices.Delete over steps: a run of them taken out of a row of one's own. -/

theorem zero_step (w : World) : (zeroValue 59).run Try.prog w = .ok (.agg #[(.int .i64 0), (.int .i64 0), (.int .i64 0), (.int .i64 0), (.int .i64 0), (.slice none 0 0)]) w := by
  obtain ⟨i0, hi0, hz0, _, _⟩ := info_parts info59
  simp [zeroValue, typeInfo, hi0, hz0]
theorem zero_one : ∀ u ∈ (Value.agg #[(.int .i64 0), (.int .i64 0), (.int .i64 0), (.int .i64 0), (.int .i64 0), (.slice none 0 0)]).cells.toList, u.oneCell' = true := by
  intro u hu
  have e : (Value.agg #[(.int .i64 0), (.int .i64 0), (.int .i64 0), (.int .i64 0), (.int .i64 0), (.slice none 0 0)]).cells.toList = [(.int .i64 0), (.int .i64 0), (.int .i64 0), (.int .i64 0), (.int .i64 0), (.slice none 0 0)] := by kernel_rfl
  rw [e] at hu
  simp only [List.mem_cons, List.not_mem_nil, or_false] at hu
  rcases hu with rfl | rfl | rfl | rfl | rfl | rfl <;> rfl
set_option maxHeartbeats 2000000 in
set_option maxRecDepth 100000 in
theorem delete_calls (fT : Nat → Nat) (n c g base : Nat) (ok : Nat → Prop) (xs : List (S59 × Nat)) (i j : Nat) (hij : i < j) (hjn : j ≤ n) (w : World) (hbs : base ≤ w.heap.size) (ho : Kd.R (Kd.tag fT k59) 59 w base ok (.slice (some ⟨g, 0, none⟩) n c) xs) :
    Calls Try.prog 72 #[.slice (some ⟨g, 0, none⟩) n c, .int .i64 (i : Int), .int .i64 (j : Int)] w fun e w' => e = .returned (.slice (some ⟨g, 0, none⟩) (n - (j - i)) c) ∧ Kd.R (Kd.tag fT k59) 59 w' base ok (.slice (some ⟨g, 0, none⟩) (n - (j - i)) c) (xs.take i ++ xs.drop j) ∧ Below base w w' := by
  obtain ⟨hn, hnc, hC⟩ := Kd.R_reads' ho
  have hmx : c ≤ 9223372036854775807 := by
    rcases ho.2 with ⟨inner, hown, _⟩
    rcases hown.2 with ⟨hv, _⟩ | ⟨g', cap', cur, hv, _, _, _, hcm, _⟩
    · cases hv
    · injection hv with _ _ hc
      subst hc
      simpa [maxLen] using hcm
  have HO := Aside0.mk ho
  have hut := Try.underlying53
  have hsz0 : (Try.prog.info? 59).map (·.size) = some 6 := by
    obtain ⟨i0, hi0, _, hs, _⟩ := info_parts info59
    rw [hi0, Option.map_some, hs]
  replace hbs := Aside0.mk hbs
  clear ho hC hn
  have h1 : (i : Int) ≤ (j : Int) := by omega
  have h2 : (j : Int) ≤ (n : Int) := by omega
  have h3 : (n : Int) ≤ (c : Int) := by omega
  have hic : i ≤ c := by omega
  have q1 : decide ((i : Int) = (j : Int)) = false := decide_eq_false (by omega)
  have q1b : decide (i = j) = false := decide_eq_false (by omega)
  have hA : (if c = j then some ⟨g, 0, none⟩ else some (⟨g, j * 6, none⟩ : Addr)) = if c = j then some (⟨g, 0, none⟩ : Addr) else (some (⟨g, 0, none⟩ : Addr)).map (·.add (j * (Kd.tag fT k59).sz)) := by
    rw [Option.map_some, add_plain]
    rfl
  go_enter Try.func72, Try.ntmps72
  go_wp2
  refine start_ (n := 8) (S := fun w' => True) (ds := []) #[false, false, false, false, false, false, false, false] (by kernel_rfl) rfl rfl trivial (fun hHeld => ?_)
  refine pure_ (i := 0) (N := some 20) (v := ?_) (a' := ?_) #[true, false, false, false, false, false, false, false] rfl rfl (by kernel_rfl) (fun _ _ _ h => h) (Or.inl ⟨by rfl, ?_⟩) ?_ ?_
  rotate_left
  · intro w'
    go_simp
    with_reducible rfl
  rotate_left
  · simp only [Act.put, List.setIfInBounds_toArray, List.set_cons_zero, List.set_cons_succ, i64_w, i32_w]
    rfl
  refine pure_ (i := 1) (N := some 21) (v := ?_) (a' := ?_) #[true, true, false, false, false, false, false, false] rfl rfl (by kernel_rfl) (fun _ _ _ h => h) (Or.inl ⟨by rfl, ?_⟩) ?_ ?_
  rotate_left
  · intro w'
    go_simp
    with_reducible rfl
  rotate_left
  · simp only [Act.put, List.setIfInBounds_toArray, List.set_cons_zero, List.set_cons_succ, i64_w, i32_w]
    rfl
  refine pure_ (i := 2) (N := some 22) (v := ?_) (a' := ?_) #[true, true, true, false, false, false, false, false] rfl rfl (by kernel_rfl) (fun _ _ _ h => h) (Or.inl ⟨by rfl, ?_⟩) ?_ ?_
  rotate_left
  · intro w'
    go_simp
    with_reducible rfl
  rotate_left
  · simp only [Act.put, List.setIfInBounds_toArray, List.set_cons_zero, List.set_cons_succ, i64_w, i32_w]
    rfl
  refine pure_ (i := 3) (N := some 23) (v := ?_) (a' := ?_) #[true, true, true, true, false, false, false, false] rfl rfl (by kernel_rfl) (fun _ _ _ h => h) (Or.inl ⟨by rfl, ?_⟩) ?_ ?_
  rotate_left
  · intro w'
    go_simp
    with_reducible rfl
  rotate_left
  · simp only [Act.put, List.setIfInBounds_toArray, List.set_cons_zero, List.set_cons_succ, i64_w, i32_w]
    rfl
  refine pure_ (i := 4) (N := some 24) (v := ?_) (a' := ?_) #[true, true, true, true, true, false, false, false] rfl rfl (by kernel_rfl) (fun _ _ _ h => h) (Or.inl ⟨by rfl, ?_⟩) ?_ ?_
  rotate_left
  · intro w'
    go_simp
    with_reducible rfl
  rotate_left
  · simp only [Act.put, List.setIfInBounds_toArray, List.set_cons_zero, List.set_cons_succ, i64_w, i32_w]
    rfl
  refine pure_ (i := 5) (N := some 25) (v := ?_) (a' := ?_) #[true, true, true, true, true, true, false, false] rfl rfl (by kernel_rfl) (fun _ _ _ h => h) (Or.inl ⟨by rfl, ?_⟩) ?_ ?_
  rotate_left
  · intro w'
    go_simp
    with_reducible rfl
  rotate_left
  · simp only [Act.put, List.setIfInBounds_toArray, List.set_cons_zero, List.set_cons_succ, i64_w, i32_w]
    rfl
  refine one_ (i := 6) (N := some 26) #[true, true, true, true, true, true, true, false] rfl rfl (by kernel_rfl) (by decide) (fun K hK => ?_)
  refine R_cut_step (P := Try.prog) (Kd.tag fT k59) (w0 := w) base (by rfl) (.tmp 22) (.tmp 25) 53 59 rfl Try.underlying53 hsz0 rfl rfl hA (Kd.R_drew HO.out) hij hjn (below_drew (Below.refl _ _)) hbs.out ?_
  intro w5 hR5 hB5 hg5
  have HO5 := Aside0.mk hR5
  have HB5 := Aside0.mk hB5
  have HG5 := Aside0.mk hg5
  clear hR5 hB5 hg5
  refine hK.out _ _ trivial (fun hHeld => ?_)
  clear hK K
  refine norm_ (a' := ?_) ?_ ?_
  rotate_left
  · show Act.put _ (some 26) _ = _
    simp only [Act.put, List.setIfInBounds_toArray, List.set_cons_zero, List.set_cons_succ, i64_w, i32_w]
    rfl
  refine pure_ (i := 7) (N := some 0) (v := ?_) (a' := ?_) #[true, true, true, true, true, true, true, true] rfl rfl (by kernel_rfl) (fun _ _ _ h => h) (Or.inl ⟨by rfl, ?_⟩) ?_ ?_
  rotate_left
  · intro w'
    go_simp
    with_reducible rfl
  rotate_left
  · simp only [Act.put, List.setIfInBounds_toArray, List.set_cons_zero, List.set_cons_succ, i64_w, i32_w]
    rfl
  refine done_ (by kernel_rfl) ?_
  obtain ⟨k, hk⟩ : ∃ k, k = n - (j - i) := ⟨_, rfl⟩
  rw [← hk] at HO5 ⊢
  have hkn : (k : Int) ≤ (n : Int) := by omega
  have hck : ¬ c = k := by omega
  have hkc : k ≤ c := by omega
  have hmk : 0 < n - k := by omega
  have hkm : k + (n - k) ≤ c := by omega
  have hm2 := Aside0.mk hk
  clear hk hA h1 h2
  go_wp2_with (first
    | ((with_reducible refine gate_builtin (b := .clear) (xs := #[.tmp 31]) rfl ?_); refine R_tail (P := Try.prog) (Kd.tag fT k59) (w0 := w) base rfl (.tmp 31) 53 59 rfl Try.underlying53 _ zero_step rfl (by show 0 < 6; decide) zero_one rfl HO5.out hmk hkm HB5.out (Nat.le_trans hbs.out HB5.out.size) ?_; intro w6 hR6 hB6; have HO6 := Aside0.mk hR6; have HB6 := Aside0.mk hB6; clear hR6 hB6))
  all_goals
    go_ret
    have e := hm2.out
    subst e
    first
      | exact ⟨rfl, HO6.out, HB6.out⟩
      | (subst_vars; exact ⟨rfl, HO6.out, HB6.out⟩)

def laws_szIntS.f (l0 : List Int) (a1 : Int) : Option (Int) := if (wrap64 (a1 - (l0.length : Int))) < 0 then (some (-1)) else (some (wrap64 (a1 - (l0.length : Int))))
set_option maxHeartbeats 8000000 in
set_option maxRecDepth 100000 in
theorem laws_szIntS.calls (A0 : Option Addr) (c0 : Nat) (l0 : List Int) (a1 : Int) (r : Int) (w : World) (hr0 : Kd.C (Kd.int .i64) w A0 l0.length l0) (hc0 : l0.length ≤ c0) (h : laws_szIntS.f l0 a1 = some r) :
    Calls Try.prog 93 #[.slice A0 l0.length c0, .int .i64 a1] w fun e w' => e = .returned (.int .i64 r) ∧ Drawn0 w w' := by
  have HR0 := Aside0.mk hr0
  have HC0 := Aside0.mk hc0
  clear hr0 hc0
  have H : (if (wrap64 (a1 - (l0.length : Int))) < 0 then (some (-1)) else (some (wrap64 (a1 - (l0.length : Int))))) = some r := h
  clear h
  by_cases c3 : (wrap64 (a1 - (l0.length : Int))) < 0
  · rw [if_pos c3] at H
    have c3b0 : decide ((wrap64 (a1 - (l0.length : Int))) < 0) = true := decide_eq_true c3
    clear c3
    obtain rfl := Option.some.inj H
    go_enter Try.func93, Try.ntmps93
    go_wp2
    go_ret
    exact ⟨by first | rfl | (simp; done) | (simp [*]; done), by repeat (first | exact Drawn0.refl _ | apply Drawn0.step)⟩
  · rw [if_neg c3] at H
    have c3b0 : decide ((wrap64 (a1 - (l0.length : Int))) < 0) = false := decide_eq_false c3
    clear c3
    obtain rfl := Option.some.inj H
    go_enter Try.func93, Try.ntmps93
    go_wp2
    go_ret
    exact ⟨by first | rfl | (simp; done) | (simp [*]; done), by repeat (first | exact Drawn0.refl _ | apply Drawn0.step)⟩


def laws_szStep.f (a0_0 : Int) (a0_1 : Int) (a0_2 : Int) (a0_3 : Int) (a0_4 : Int) (l0_5 : List Int) (a1 : Int) : Option (Int) := (laws_szIntS.f l0_5 a1).bind fun t77002 => (if t77002 < 0 then (some (-1)) else (some t77002))
set_option maxHeartbeats 8000000 in
set_option maxRecDepth 100000 in
theorem laws_szStep.calls (a0_0 : Int) (a0_1 : Int) (a0_2 : Int) (a0_3 : Int) (a0_4 : Int) (A0_5 : Option Addr) (c0_5 : Nat) (l0_5 : List Int) (a1 : Int) (r : Int) (w : World) (hr0_5 : Kd.C (Kd.int .i64) w A0_5 l0_5.length l0_5) (hc0_5 : l0_5.length ≤ c0_5) (h : laws_szStep.f a0_0 a0_1 a0_2 a0_3 a0_4 l0_5 a1 = some r) :
    Calls Try.prog 76 #[.agg #[.int .i64 a0_0, .int .i64 a0_1, .int .i64 a0_2, .int .i64 a0_3, .int .i64 a0_4, .slice A0_5 l0_5.length c0_5], .int .i64 a1] w fun e w' => e = .returned (.int .i64 r) ∧ Below w.heap.size w w' := by
  have hu98 := Try.underlying98
  have HR0_5 := Aside0.mk hr0_5
  have HC0_5 := Aside0.mk hc0_5
  clear hr0_5 hc0_5
  have HB := Aside0.mk (Below.refl w.heap.size w)
  have H : ((laws_szIntS.f l0_5 a1).bind fun t77002 => (if t77002 < 0 then (some (-1)) else (some t77002))) = some r := h
  clear h
  replace H := Option.bind_eq_some_iff.mp H
  obtain ⟨t77002, A30, H⟩ := H
  replace H : (if t77002 < 0 then (some (-1)) else (some t77002)) = some r := H
  have A3 := Aside0.mk A30
  clear A30
  by_cases c4 : t77002 < 0
  · rw [if_pos c4] at H
    have c4b0 : decide (t77002 < 0) = true := decide_eq_true c4
    clear c4
    obtain rfl := Option.some.inj H
    go_enter Try.func76, Try.ntmps76
    go_wp2_with (first | ((with_reducible refine gate_dst (N := 2) rfl ?_); refine box_event ?hg (N := 2) ?hd (cs := #[.int .i64 a0_0, .int .i64 a0_1, .int .i64 a0_2, .int .i64 a0_3, .int .i64 a0_4, .slice A0_5 l0_5.length c0_5]) (t := 98) ?hr ?_; (case hd => rfl); (case hg => rfl); (case hr => first | (go_simp; done) | (go_simp; rfl)); intro gb77001 hg w5 hbox hb; have n0_ := Aside0.mk (below_step (by repeat (first | (with_reducible first | exact HB.out | apply below_alloc | apply pw_below_drewN | apply below_drew1) | exact HB.out)) hb); have n1_ := Aside0.mk (hbox); have n2_ := Aside0.mk ((by rw [hg]; exact (below_size (by repeat (first | (with_reducible first | exact HB.out | apply below_alloc | apply pw_below_drewN | apply below_drew1) | exact HB.out))) : w.heap.size ≤ gb77001)); have n3_ := Aside0.mk ((by rw [hg]; exact (below_size (by repeat (first | (with_reducible first | exact HB.out | apply below_alloc | apply pw_below_drewN | apply below_drew1) | exact HB.out))) : w.heap.size ≤ gb77001)); clear HB; have HB := n0_; have BK77001 := n1_; have GW77001 := n2_; have GE77001 := n3_; clear n0_ n1_ n2_ n3_; clear hb hbox hg; have hcz6_0 : w5.cell? ⟨gb77001, 0, none⟩ = some (.int .i64 a0_0) := (blk_cell BK77001.out 0).trans rfl; have hcz6_1 : w5.cell? ⟨gb77001, 1, none⟩ = some (.int .i64 a0_1) := (blk_cell BK77001.out 1).trans rfl; have hcz6_2 : w5.cell? ⟨gb77001, 2, none⟩ = some (.int .i64 a0_2) := (blk_cell BK77001.out 2).trans rfl; have hcz6_3 : w5.cell? ⟨gb77001, 3, none⟩ = some (.int .i64 a0_3) := (blk_cell BK77001.out 3).trans rfl; have hcz6_4 : w5.cell? ⟨gb77001, 4, none⟩ = some (.int .i64 a0_4) := (blk_cell BK77001.out 4).trans rfl; have hcz6_5 : w5.cell? ⟨gb77001, 5, none⟩ = some (.slice A0_5 l0_5.length c0_5) := (blk_cell BK77001.out 5).trans rfl; have hfz6_0 := blk_frozen BK77001.out 0; have hfz6_1 := blk_frozen BK77001.out 1; have hfz6_2 := blk_frozen BK77001.out 2; have hfz6_3 := blk_frozen BK77001.out 3; have hfz6_4 := blk_frozen BK77001.out 4; have hfz6_5 := blk_frozen BK77001.out 5) | ((with_reducible refine gate_callee (f := 93) rfl ?_); refine goesL_ (some 8) rfl rfl Try.func93 (by kernel_rfl) rfl #[.slice A0_5 l0_5.length c0_5, .int .i64 a1] rfl (by (try simp only [List.map_toArray, List.map_cons, List.map_nil]); first | done | rfl | (simp only [List.length_drop, List.length_take]; rfl)) ?_; (with_reducible refine (laws_szIntS.calls _ _ l0_5 a1 t77002 _ ?side1 ?side2 A3.out).mono ?_); (case side1 => repeat (first | exact (Kd.C_below HR0_5.out HB.out) | (with_reducible refine Kd.C_alloc ?_ _) | (with_reducible refine Kd.C_drewN ?_ _) | (with_reducible refine Kd.C_drew ?_))); (case side2 => exact HC0_5.out); rintro e w' ⟨rfl, ⟨nd, rfl⟩⟩; refine ⟨_, rfl, ?_⟩))
    go_ret
    exact ⟨by first | rfl | (simp [errW_none, errW_some] <;> rfl) | (simp [*, errW_none, errW_some] <;> rfl), by repeat (first | (with_reducible first | exact HB.out | apply below_alloc | apply pw_below_drewN | apply below_drew1 | refine below_set ?_ GE77001.out) | exact HB.out)⟩
  · rw [if_neg c4] at H
    have c4b0 : decide (t77002 < 0) = false := decide_eq_false c4
    clear c4
    obtain rfl := Option.some.inj H
    go_enter Try.func76, Try.ntmps76
    go_wp2_with (first | ((with_reducible refine gate_dst (N := 2) rfl ?_); refine box_event ?hg (N := 2) ?hd (cs := #[.int .i64 a0_0, .int .i64 a0_1, .int .i64 a0_2, .int .i64 a0_3, .int .i64 a0_4, .slice A0_5 l0_5.length c0_5]) (t := 98) ?hr ?_; (case hd => rfl); (case hg => rfl); (case hr => first | (go_simp; done) | (go_simp; rfl)); intro gb77001 hg w7 hbox hb; have n0_ := Aside0.mk (below_step (by repeat (first | (with_reducible first | exact HB.out | apply below_alloc | apply pw_below_drewN | apply below_drew1) | exact HB.out)) hb); have n1_ := Aside0.mk (hbox); have n2_ := Aside0.mk ((by rw [hg]; exact (below_size (by repeat (first | (with_reducible first | exact HB.out | apply below_alloc | apply pw_below_drewN | apply below_drew1) | exact HB.out))) : w.heap.size ≤ gb77001)); have n3_ := Aside0.mk ((by rw [hg]; exact (below_size (by repeat (first | (with_reducible first | exact HB.out | apply below_alloc | apply pw_below_drewN | apply below_drew1) | exact HB.out))) : w.heap.size ≤ gb77001)); clear HB; have HB := n0_; have BK77001 := n1_; have GW77001 := n2_; have GE77001 := n3_; clear n0_ n1_ n2_ n3_; clear hb hbox hg; have hcz8_0 : w7.cell? ⟨gb77001, 0, none⟩ = some (.int .i64 a0_0) := (blk_cell BK77001.out 0).trans rfl; have hcz8_1 : w7.cell? ⟨gb77001, 1, none⟩ = some (.int .i64 a0_1) := (blk_cell BK77001.out 1).trans rfl; have hcz8_2 : w7.cell? ⟨gb77001, 2, none⟩ = some (.int .i64 a0_2) := (blk_cell BK77001.out 2).trans rfl; have hcz8_3 : w7.cell? ⟨gb77001, 3, none⟩ = some (.int .i64 a0_3) := (blk_cell BK77001.out 3).trans rfl; have hcz8_4 : w7.cell? ⟨gb77001, 4, none⟩ = some (.int .i64 a0_4) := (blk_cell BK77001.out 4).trans rfl; have hcz8_5 : w7.cell? ⟨gb77001, 5, none⟩ = some (.slice A0_5 l0_5.length c0_5) := (blk_cell BK77001.out 5).trans rfl; have hfz8_0 := blk_frozen BK77001.out 0; have hfz8_1 := blk_frozen BK77001.out 1; have hfz8_2 := blk_frozen BK77001.out 2; have hfz8_3 := blk_frozen BK77001.out 3; have hfz8_4 := blk_frozen BK77001.out 4; have hfz8_5 := blk_frozen BK77001.out 5) | ((with_reducible refine gate_callee (f := 93) rfl ?_); refine goesL_ (some 8) rfl rfl Try.func93 (by kernel_rfl) rfl #[.slice A0_5 l0_5.length c0_5, .int .i64 a1] rfl (by (try simp only [List.map_toArray, List.map_cons, List.map_nil]); first | done | rfl | (simp only [List.length_drop, List.length_take]; rfl)) ?_; (with_reducible refine (laws_szIntS.calls _ _ l0_5 a1 t77002 _ ?side1 ?side2 A3.out).mono ?_); (case side1 => repeat (first | exact (Kd.C_below HR0_5.out HB.out) | (with_reducible refine Kd.C_alloc ?_ _) | (with_reducible refine Kd.C_drewN ?_ _) | (with_reducible refine Kd.C_drew ?_))); (case side2 => exact HC0_5.out); rintro e w' ⟨rfl, ⟨nd, rfl⟩⟩; refine ⟨_, rfl, ?_⟩))
    go_ret
    exact ⟨by first | rfl | (simp [errW_none, errW_some] <;> rfl) | (simp [*, errW_none, errW_some] <;> rfl), by repeat (first | (with_reducible first | exact HB.out | apply below_alloc | apply pw_below_drewN | apply below_drew1 | refine below_set ?_ GE77001.out) | exact HB.out)⟩


def laws_szStepS.l0 : Nat → List (S98) → Int → Int → Option (Int)
  | 0, _, _, _ => none
  | k + 1, x0, x1, x5 => if x5 < (x0.length : Int) then (if 0 ≤ x5 then ((laws_szStep.f ((rd_T98 x0 x5).f0) ((rd_T98 x0 x5).f1.f0) ((rd_T98 x0 x5).f1.f1) ((rd_T98 x0 x5).f1.f2) ((rd_T98 x0 x5).f1.f3) ((rd_T98 x0 x5).f2) x1).bind fun t42002 => (if t42002 < 0 then (some (-1)) else (laws_szStepS.l0 k x0 t42002 (wrap64 (x5 + 1))))) else (none)) else (some x1)
def laws_szStepS.f (k : Nat) (l0 : List (S98)) (a1 : Int) : Option (Int) := if (wrap64 (a1 - (l0.length : Int))) < 0 then (some (-1)) else (laws_szStepS.l0 k l0 (wrap64 (a1 - (l0.length : Int))) 0)
set_option maxHeartbeats 8000000 in
set_option maxRecDepth 100000 in
theorem laws_szStepS.calls (k : Nat) (A0 : Option Addr) (c0 : Nat) (l0 : List (S98)) (a1 : Int) (r : Int) (w : World) (hr0 : Kd.C k98 w A0 l0.length l0) (hc0 : l0.length ≤ c0) (h : laws_szStepS.f k l0 a1 = some r) :
    Calls Try.prog 41 #[.slice A0 l0.length c0, .int .i64 a1] w fun e w' => e = .returned (.int .i64 r) ∧ Below w.heap.size w w' := by
  have hu98 := Try.underlying98
  have HR0 := Aside0.mk hr0
  have HC0 := Aside0.mk hc0
  clear hr0 hc0
  have HB := Aside0.mk (Below.refl w.heap.size w)
  have H : (if (wrap64 (a1 - (l0.length : Int))) < 0 then (some (-1)) else (laws_szStepS.l0 k l0 (wrap64 (a1 - (l0.length : Int))) 0)) = some r := h
  clear h
  by_cases c3 : (wrap64 (a1 - (l0.length : Int))) < 0
  · rw [if_pos c3] at H
    have c3b0 : decide ((wrap64 (a1 - (l0.length : Int))) < 0) = true := decide_eq_true c3
    clear c3
    obtain rfl := Option.some.inj H
    go_enter Try.func41, Try.ntmps41
    go_wp2
    go_ret
    exact ⟨by first | rfl | (simp [errW_none, errW_some] <;> rfl) | (simp [*, errW_none, errW_some] <;> rfl), by repeat (first | (with_reducible first | exact HB.out | apply below_alloc | apply pw_below_drewN | apply below_drew1) | exact HB.out)⟩
  · rw [if_neg c3] at H
    have c3b0 : decide ((wrap64 (a1 - (l0.length : Int))) < 0) = false := decide_eq_false c3
    clear c3
    have H' := Aside0.mk H
    clear H
    go_enter Try.func41, Try.ntmps41
    go_wp2
    go_loopg [1, 5] k (fun kq v1 v5 w' => ∃ (x1_1 : Int) (x5_1 : Int), v1 = .int .i64 x1_1 ∧ v5 = .int .i64 x5_1 ∧ Aside0 (laws_szStepS.l0 kq l0 x1_1 x5_1 = some r) ∧ Aside0 (kq ≤ k) ∧ Aside0 (Below w.heap.size w w'))
    case atStart => exact ⟨(wrap64 (a1 - (l0.length : Int))), (0), (by first | rfl | (simp; done) | (simp [*]; done)), (by first | rfl | (simp; done) | (simp [*]; done)), H', ⟨Nat.le_refl _⟩, ⟨by repeat (first | (with_reducible first | exact HB.out | apply below_alloc | apply pw_below_drewN | apply below_drew1) | exact HB.out)⟩⟩
    case round =>
      clear H'
      try clear p2
      try clear c3
      try clear c3b0
      obtain ⟨x1_1, x5_1, rfl, rfl, HA, HK1, HB⟩ := hrel
      cases gk with
      | zero => exact absurd HA.out (by simp [laws_szStepS.l0])
      | succ k1 =>
        have H := HA.out
        clear HA
        simp only [laws_szStepS.l0] at H
        by_cases c4 : x5_1 < (l0.length : Int)
        · rw [if_pos c4] at H
          have c4b0 : decide (x5_1 < (l0.length : Int)) = true := decide_eq_true c4
          clear c4
          by_cases c5 : 0 ≤ x5_1
          · rw [if_pos c5] at H
            have c5b0 : decide (0 ≤ x5_1) = true := decide_eq_true c5
            clear c5
            replace H := Option.bind_eq_some_iff.mp H
            obtain ⟨t42002, A60, H⟩ := H
            replace H : (if t42002 < 0 then (some (-1)) else (laws_szStepS.l0 k1 l0 t42002 (wrap64 (x5_1 + 1)))) = some r := H
            have A6 := Aside0.mk A60
            clear A60
            by_cases c7 : t42002 < 0
            · rw [if_pos c7] at H
              have c7b0 : decide (t42002 < 0) = true := decide_eq_true c7
              clear c7
              obtain rfl := Option.some.inj H
              have p42001 : 0 ≤ (x5_1 : Int) := of_decide_eq_true (by first | (with_reducible assumption) | assumption)
              have q42001 : x5_1 < (l0.length : Int) := of_decide_eq_true (by first | (with_reducible assumption) | assumption)
              obtain ⟨ad42001, A42001_5, c42001_5, e42001, hx42001_0, hx42001_1, hx42001_2, hx42001_3, hx42001_4, hx42001_5, hl42001_5, hi42001_5⟩ := at_T98 HR0.out x5_1 p42001 q42001
              cases e42001
              replace hx42001_0 := (HB.out.cell (World.block_lt_of_cell? w _ hx42001_0)).trans hx42001_0
              replace hx42001_1 := (HB.out.cell (World.block_lt_of_cell? w _ hx42001_1)).trans hx42001_1
              replace hx42001_2 := (HB.out.cell (World.block_lt_of_cell? w _ hx42001_2)).trans hx42001_2
              replace hx42001_3 := (HB.out.cell (World.block_lt_of_cell? w _ hx42001_3)).trans hx42001_3
              replace hx42001_4 := (HB.out.cell (World.block_lt_of_cell? w _ hx42001_4)).trans hx42001_4
              replace hx42001_5 := (HB.out.cell (World.block_lt_of_cell? w _ hx42001_5)).trans hx42001_5
              have HR42001_5 := Aside0.mk hi42001_5
              have HC42001_5 := Aside0.mk hl42001_5
              clear hi42001_5 hl42001_5
              replace p42001 := eq_true p42001
              replace q42001 := eq_true q42001
              go_wp2_with (first | ((with_reducible refine gate_callee (f := 76) rfl ?_); refine goesL_ (some 23) rfl rfl Try.func76 (by kernel_rfl) rfl #[.agg #[.int .i64 ((rd_T98 l0 x5_1).f0), .int .i64 ((rd_T98 l0 x5_1).f1.f0), .int .i64 ((rd_T98 l0 x5_1).f1.f1), .int .i64 ((rd_T98 l0 x5_1).f1.f2), .int .i64 ((rd_T98 l0 x5_1).f1.f3), .slice A42001_5 ((rd_T98 l0 x5_1).f2).length c42001_5], .int .i64 x1_1] rfl (by (try simp only [List.map_toArray, List.map_cons, List.map_nil]); first | done | rfl | (simp only [List.length_drop, List.length_take]; rfl)) ?_; (with_reducible refine (laws_szStep.calls ((rd_T98 l0 x5_1).f0) ((rd_T98 l0 x5_1).f1.f0) ((rd_T98 l0 x5_1).f1.f1) ((rd_T98 l0 x5_1).f1.f2) ((rd_T98 l0 x5_1).f1.f3) _ _ ((rd_T98 l0 x5_1).f2) x1_1 t42002 _ ?side1 ?side2 A6.out).mono ?_); (case side1 => repeat (first | exact (Kd.C_below HR42001_5.out HB.out) | (with_reducible refine Kd.C_alloc ?_ _) | (with_reducible refine Kd.C_drewN ?_ _) | (with_reducible refine Kd.C_drew ?_))); (case side2 => exact HC42001_5.out); rintro e w8 ⟨rfl, hb⟩; refine ⟨_, rfl, ?_⟩; have n0_ := Aside0.mk (below_step (by repeat (first | (with_reducible first | exact HB.out | apply below_alloc | apply pw_below_drewN | apply below_drew1) | exact HB.out)) hb); clear HB; have HB := n0_; clear n0_; (try clear hb); (try clear hb2); (try clear hk); (try clear hi)))
              go_ret
              exact ⟨by first | rfl | (simp [errW_none, errW_some] <;> rfl) | (simp [*, errW_none, errW_some] <;> rfl), by repeat (first | (with_reducible first | exact HB.out | apply below_alloc | apply pw_below_drewN | apply below_drew1) | exact HB.out)⟩
            · rw [if_neg c7] at H
              have c7b0 : decide (t42002 < 0) = false := decide_eq_false c7
              clear c7
              have H' := Aside0.mk H
              clear H
              have p42001 : 0 ≤ (x5_1 : Int) := of_decide_eq_true (by first | (with_reducible assumption) | assumption)
              have q42001 : x5_1 < (l0.length : Int) := of_decide_eq_true (by first | (with_reducible assumption) | assumption)
              obtain ⟨ad42001, A42001_5, c42001_5, e42001, hx42001_0, hx42001_1, hx42001_2, hx42001_3, hx42001_4, hx42001_5, hl42001_5, hi42001_5⟩ := at_T98 HR0.out x5_1 p42001 q42001
              cases e42001
              replace hx42001_0 := (HB.out.cell (World.block_lt_of_cell? w _ hx42001_0)).trans hx42001_0
              replace hx42001_1 := (HB.out.cell (World.block_lt_of_cell? w _ hx42001_1)).trans hx42001_1
              replace hx42001_2 := (HB.out.cell (World.block_lt_of_cell? w _ hx42001_2)).trans hx42001_2
              replace hx42001_3 := (HB.out.cell (World.block_lt_of_cell? w _ hx42001_3)).trans hx42001_3
              replace hx42001_4 := (HB.out.cell (World.block_lt_of_cell? w _ hx42001_4)).trans hx42001_4
              replace hx42001_5 := (HB.out.cell (World.block_lt_of_cell? w _ hx42001_5)).trans hx42001_5
              have HR42001_5 := Aside0.mk hi42001_5
              have HC42001_5 := Aside0.mk hl42001_5
              clear hi42001_5 hl42001_5
              replace p42001 := eq_true p42001
              replace q42001 := eq_true q42001
              go_wp2_with (first | ((with_reducible refine gate_callee (f := 76) rfl ?_); refine goesL_ (some 23) rfl rfl Try.func76 (by kernel_rfl) rfl #[.agg #[.int .i64 ((rd_T98 l0 x5_1).f0), .int .i64 ((rd_T98 l0 x5_1).f1.f0), .int .i64 ((rd_T98 l0 x5_1).f1.f1), .int .i64 ((rd_T98 l0 x5_1).f1.f2), .int .i64 ((rd_T98 l0 x5_1).f1.f3), .slice A42001_5 ((rd_T98 l0 x5_1).f2).length c42001_5], .int .i64 x1_1] rfl (by (try simp only [List.map_toArray, List.map_cons, List.map_nil]); first | done | rfl | (simp only [List.length_drop, List.length_take]; rfl)) ?_; (with_reducible refine (laws_szStep.calls ((rd_T98 l0 x5_1).f0) ((rd_T98 l0 x5_1).f1.f0) ((rd_T98 l0 x5_1).f1.f1) ((rd_T98 l0 x5_1).f1.f2) ((rd_T98 l0 x5_1).f1.f3) _ _ ((rd_T98 l0 x5_1).f2) x1_1 t42002 _ ?side1 ?side2 A6.out).mono ?_); (case side1 => repeat (first | exact (Kd.C_below HR42001_5.out HB.out) | (with_reducible refine Kd.C_alloc ?_ _) | (with_reducible refine Kd.C_drewN ?_ _) | (with_reducible refine Kd.C_drew ?_))); (case side2 => exact HC42001_5.out); rintro e w9 ⟨rfl, hb⟩; refine ⟨_, rfl, ?_⟩; have n0_ := Aside0.mk (below_step (by repeat (first | (with_reducible first | exact HB.out | apply below_alloc | apply pw_below_drewN | apply below_drew1) | exact HB.out)) hb); clear HB; have HB := n0_; clear n0_; (try clear hb); (try clear hb2); (try clear hk); (try clear hi)))
              go_roundg k1
              case measure => have := HK1.out; omega
              case rel => exact ⟨(t42002), (wrap64 (x5_1 + 1)), (by first | rfl | (simp; done) | (simp [*]; done)), (by first | rfl | (simp; done) | (simp [*]; done)), H', ⟨by have := HK1.out; omega⟩, ⟨by repeat (first | (with_reducible first | exact HB.out | apply below_alloc | apply pw_below_drewN | apply below_drew1) | exact HB.out)⟩⟩
          · rw [if_neg c5] at H
            exact absurd H (by simp)
        · rw [if_neg c4] at H
          have c4b0 : decide (x5_1 < (l0.length : Int)) = false := decide_eq_false c4
          clear c4
          obtain rfl := Option.some.inj H
          go_wp2
          go_ret
          exact ⟨by first | rfl | (simp [errW_none, errW_some] <;> rfl) | (simp [*, errW_none, errW_some] <;> rfl), by repeat (first | (with_reducible first | exact HB.out | apply below_alloc | apply pw_below_drewN | apply below_drew1) | exact HB.out)⟩


def laws_toBox.f (a0_0 : Int) (a0_1 : Int) (a0_2 : Int) (a0_3 : Int) : Option (Int × Int × Int × Int) := some (a0_0, a0_1, a0_2, a0_3)
set_option maxHeartbeats 8000000 in
set_option maxRecDepth 100000 in
theorem laws_toBox.calls (a0_0 : Int) (a0_1 : Int) (a0_2 : Int) (a0_3 : Int) (r1 : Int) (r2 : Int) (r3 : Int) (r4 : Int) (w : World) (h : laws_toBox.f a0_0 a0_1 a0_2 a0_3 = some (r1, r2, r3, r4)) :
    Calls Try.prog 53 #[.agg #[.int .i64 a0_0, .int .i64 a0_1, .int .i64 a0_2, .int .i64 a0_3]] w fun e w' => e = .returned (.agg #[.int .i64 r1, .int .i64 r2, .int .i64 r3, .int .i64 r4]) ∧ Below w.heap.size w w' := by
  have hu71 := Try.underlying71
  have hu50 := Try.underlying50
  have HB := Aside0.mk (Below.refl w.heap.size w)
  have H : (some (a0_0, a0_1, a0_2, a0_3)) = some (r1, r2, r3, r4) := h
  clear h
  simp only [Option.some.injEq, Prod.mk.injEq] at H
  obtain ⟨rfl, rfl, rfl, rfl⟩ := H
  go_enter Try.func53, Try.ntmps53
  go_wp2_with (first | ((with_reducible refine gate_dst (N := 1) rfl ?_); refine box_event ?hg (N := 1) ?hd (cs := #[.int .i64 a0_0, .int .i64 a0_1, .int .i64 a0_2, .int .i64 a0_3]) (t := 71) ?hr ?_; (case hd => rfl); (case hg => rfl); (case hr => first | (go_simp; done) | (go_simp; rfl)); intro gb54001 hg w2 hbox hb; have n0_ := Aside0.mk (below_step (by repeat (first | (with_reducible first | exact HB.out | apply below_alloc | apply pw_below_drewN | apply below_drew1) | exact HB.out)) hb); have n1_ := Aside0.mk (hbox); have n2_ := Aside0.mk ((by rw [hg]; exact (below_size (by repeat (first | (with_reducible first | exact HB.out | apply below_alloc | apply pw_below_drewN | apply below_drew1) | exact HB.out))) : w.heap.size ≤ gb54001)); have n3_ := Aside0.mk ((by rw [hg]; exact (below_size (by repeat (first | (with_reducible first | exact HB.out | apply below_alloc | apply pw_below_drewN | apply below_drew1) | exact HB.out))) : w.heap.size ≤ gb54001)); clear HB; have HB := n0_; have BK54001 := n1_; have GW54001 := n2_; have GE54001 := n3_; clear n0_ n1_ n2_ n3_; clear hb hbox hg) | ((with_reducible refine gate_dst (N := 2) rfl ?_); refine box_event ?hg (N := 2) ?hd (cs := #[.int .i64 0, .int .i64 0, .int .i64 0, .int .i64 0]) (t := 50) ?hr ?_; (case hd => rfl); (case hg => rfl); (case hr => first | (go_simp; done) | (go_simp; rfl)); intro gb54002 hg w3 hbox hb; have n0_ := Aside0.mk (blk_below (g := gb54001) (o := .cells #[.int .i64 a0_0, .int .i64 a0_1, .int .i64 a0_2, .int .i64 a0_3] 71 (0, 0)) (by (with_reducible repeat (first | refine blk_drewN ?_ _ | refine blk_drew ?_ | refine blk_alloc ?_ _)); exact BK54001.out) hb); have n1_ := Aside0.mk (below_step (by repeat (first | (with_reducible first | exact HB.out | apply below_alloc | apply pw_below_drewN | apply below_drew1 | refine below_set ?_ GE54001.out) | exact HB.out)) hb); have n2_ := Aside0.mk (hbox); have n3_ := Aside0.mk ((by rw [hg]; exact (below_size (by repeat (first | (with_reducible first | exact HB.out | apply below_alloc | apply pw_below_drewN | apply below_drew1 | refine below_set ?_ GE54001.out) | exact HB.out))) : w.heap.size ≤ gb54002)); have n4_ := Aside0.mk ((by rw [hg]; exact (below_size (by repeat (first | (with_reducible first | exact HB.out | apply below_alloc | apply pw_below_drewN | apply below_drew1 | refine below_set ?_ GE54001.out) | exact HB.out))) : w.heap.size ≤ gb54002)); have n5_ := Aside0.mk ((by rw [hg]; exact Nat.ne_of_lt (blk_lt (g := gb54001) (o := .cells #[.int .i64 a0_0, .int .i64 a0_1, .int .i64 a0_2, .int .i64 a0_3] 71 (0, 0)) (by (with_reducible repeat (first | refine blk_drewN ?_ _ | refine blk_drew ?_ | refine blk_alloc ?_ _)); exact BK54001.out)) : gb54001 ≠ gb54002)); have n6_ := Aside0.mk ((by rw [hg]; exact Nat.ne_of_gt (blk_lt (g := gb54001) (o := .cells #[.int .i64 a0_0, .int .i64 a0_1, .int .i64 a0_2, .int .i64 a0_3] 71 (0, 0)) (by (with_reducible repeat (first | refine blk_drewN ?_ _ | refine blk_drew ?_ | refine blk_alloc ?_ _)); exact BK54001.out)) : gb54002 ≠ gb54001)); clear BK54001; clear HB; have BK54001 := n0_; have HB := n1_; have BK54002 := n2_; have GW54002 := n3_; have GE54002 := n4_; have NB54001_54002 := n5_; have NB54002_54001 := n6_; clear n0_ n1_ n2_ n3_ n4_ n5_ n6_; clear hb hbox hg) | ((with_reducible refine gate_dst (N := 3) rfl ?_); refine box_event ?hg (N := 3) ?hd (cs := #[.int .i64 0, .int .i64 0, .int .i64 0, .int .i64 0]) (t := 50) ?hr ?_; (case hd => rfl); (case hg => rfl); (case hr => first | (go_simp; done) | (go_simp; rfl)); intro gb54003 hg w4 hbox hb; have n0_ := Aside0.mk (blk_below (g := gb54001) (o := .cells #[.int .i64 a0_0, .int .i64 a0_1, .int .i64 a0_2, .int .i64 a0_3] 71 (0, 0)) (by (with_reducible repeat (first | refine blk_drewN ?_ _ | refine blk_drew ?_ | refine blk_alloc ?_ _)); exact BK54001.out) hb); have n1_ := Aside0.mk (blk_below (g := gb54002) (o := .cells #[.int .i64 0, .int .i64 0, .int .i64 0, .int .i64 0] 50 (0, 0)) (by (with_reducible repeat (first | refine blk_drewN ?_ _ | refine blk_drew ?_ | refine blk_alloc ?_ _)); exact BK54002.out) hb); have n2_ := Aside0.mk (below_step (by repeat (first | (with_reducible first | exact HB.out | apply below_alloc | apply pw_below_drewN | apply below_drew1 | refine below_set ?_ GE54001.out | refine below_set ?_ GE54002.out) | exact HB.out)) hb); have n3_ := Aside0.mk (hbox); have n4_ := Aside0.mk ((by rw [hg]; exact (below_size (by repeat (first | (with_reducible first | exact HB.out | apply below_alloc | apply pw_below_drewN | apply below_drew1 | refine below_set ?_ GE54001.out | refine below_set ?_ GE54002.out) | exact HB.out))) : w.heap.size ≤ gb54003)); have n5_ := Aside0.mk ((by rw [hg]; exact (below_size (by repeat (first | (with_reducible first | exact HB.out | apply below_alloc | apply pw_below_drewN | apply below_drew1 | refine below_set ?_ GE54001.out | refine below_set ?_ GE54002.out) | exact HB.out))) : w.heap.size ≤ gb54003)); have n6_ := Aside0.mk ((by rw [hg]; exact Nat.ne_of_lt (blk_lt (g := gb54001) (o := .cells #[.int .i64 a0_0, .int .i64 a0_1, .int .i64 a0_2, .int .i64 a0_3] 71 (0, 0)) (by (with_reducible repeat (first | refine blk_drewN ?_ _ | refine blk_drew ?_ | refine blk_alloc ?_ _)); exact BK54001.out)) : gb54001 ≠ gb54003)); have n7_ := Aside0.mk ((by rw [hg]; exact Nat.ne_of_gt (blk_lt (g := gb54001) (o := .cells #[.int .i64 a0_0, .int .i64 a0_1, .int .i64 a0_2, .int .i64 a0_3] 71 (0, 0)) (by (with_reducible repeat (first | refine blk_drewN ?_ _ | refine blk_drew ?_ | refine blk_alloc ?_ _)); exact BK54001.out)) : gb54003 ≠ gb54001)); have n8_ := Aside0.mk ((by rw [hg]; exact Nat.ne_of_lt (blk_lt (g := gb54002) (o := .cells #[.int .i64 0, .int .i64 0, .int .i64 0, .int .i64 0] 50 (0, 0)) (by (with_reducible repeat (first | refine blk_drewN ?_ _ | refine blk_drew ?_ | refine blk_alloc ?_ _)); exact BK54002.out)) : gb54002 ≠ gb54003)); have n9_ := Aside0.mk ((by rw [hg]; exact Nat.ne_of_gt (blk_lt (g := gb54002) (o := .cells #[.int .i64 0, .int .i64 0, .int .i64 0, .int .i64 0] 50 (0, 0)) (by (with_reducible repeat (first | refine blk_drewN ?_ _ | refine blk_drew ?_ | refine blk_alloc ?_ _)); exact BK54002.out)) : gb54003 ≠ gb54002)); clear BK54001; clear BK54002; clear HB; have BK54001 := n0_; have BK54002 := n1_; have HB := n2_; have BK54003 := n3_; have GW54003 := n4_; have GE54003 := n5_; have NB54001_54003 := n6_; have NB54003_54001 := n7_; have NB54002_54003 := n8_; have NB54003_54002 := n9_; clear n0_ n1_ n2_ n3_ n4_ n5_ n6_ n7_ n8_ n9_; clear hb hbox hg; have hnb5 := NB54001_54002.out; have hnc5 := NB54002_54001.out; have hnb6 := NB54001_54003.out; have hnc6 := NB54003_54001.out; have hcz7_0 : w4.cell? ⟨gb54001, 0, none⟩ = some (.int .i64 a0_0) := (blk_cell BK54001.out 0).trans rfl; have hcz7_1 : w4.cell? ⟨gb54001, 1, none⟩ = some (.int .i64 a0_1) := (blk_cell BK54001.out 1).trans rfl; have hcz7_2 : w4.cell? ⟨gb54001, 2, none⟩ = some (.int .i64 a0_2) := (blk_cell BK54001.out 2).trans rfl; have hcz7_3 : w4.cell? ⟨gb54001, 3, none⟩ = some (.int .i64 a0_3) := (blk_cell BK54001.out 3).trans rfl; have hfz7_0 := blk_frozen BK54001.out 0; have hfz7_1 := blk_frozen BK54001.out 1; have hfz7_2 := blk_frozen BK54001.out 2; have hfz7_3 := blk_frozen BK54001.out 3; have hnb8 := NB54003_54002.out; have hnc8 := NB54002_54003.out; have hcz9_0 : w4.cell? ⟨gb54003, 0, none⟩ = some (.int .i64 0) := (blk_cell BK54003.out 0).trans rfl; have hcz9_1 : w4.cell? ⟨gb54003, 1, none⟩ = some (.int .i64 0) := (blk_cell BK54003.out 1).trans rfl; have hcz9_2 : w4.cell? ⟨gb54003, 2, none⟩ = some (.int .i64 0) := (blk_cell BK54003.out 2).trans rfl; have hcz9_3 : w4.cell? ⟨gb54003, 3, none⟩ = some (.int .i64 0) := (blk_cell BK54003.out 3).trans rfl; have hfz9_0 := blk_frozen BK54003.out 0; have hfz9_1 := blk_frozen BK54003.out 1; have hfz9_2 := blk_frozen BK54003.out 2; have hfz9_3 := blk_frozen BK54003.out 3; have hcz10_0 : w4.cell? ⟨gb54002, 0, none⟩ = some (.int .i64 0) := (blk_cell BK54002.out 0).trans rfl; have hcz10_1 : w4.cell? ⟨gb54002, 1, none⟩ = some (.int .i64 0) := (blk_cell BK54002.out 1).trans rfl; have hcz10_2 : w4.cell? ⟨gb54002, 2, none⟩ = some (.int .i64 0) := (blk_cell BK54002.out 2).trans rfl; have hcz10_3 : w4.cell? ⟨gb54002, 3, none⟩ = some (.int .i64 0) := (blk_cell BK54002.out 3).trans rfl; have hfz10_0 := blk_frozen BK54002.out 0; have hfz10_1 := blk_frozen BK54002.out 1; have hfz10_2 := blk_frozen BK54002.out 2; have hfz10_3 := blk_frozen BK54002.out 3))
  refine bodyPost_ret (results_cell_row rfl _ _ gb54002 50 #[.int .i64 a0_0, .int .i64 a0_1, .int .i64 a0_2, .int .i64 a0_3] (0, 0) _ rfl (by (with_reducible repeat (first | refine blk_drewN ?_ _ | refine blk_drew ?_ | refine blk_alloc ?_ _)); refine blk_put (cs := #[.int .i64 a0_0, .int .i64 a0_1, .int .i64 a0_2, .int .i64 0]) ?_ 3 _ rfl; (with_reducible repeat (first | refine blk_drewN ?_ _ | refine blk_drew ?_ | refine blk_alloc ?_ _)); refine blk_put (cs := #[.int .i64 a0_0, .int .i64 a0_1, .int .i64 0, .int .i64 0]) ?_ 2 _ rfl; (with_reducible repeat (first | refine blk_drewN ?_ _ | refine blk_drew ?_ | refine blk_alloc ?_ _)); refine blk_put (cs := #[.int .i64 a0_0, .int .i64 0, .int .i64 0, .int .i64 0]) ?_ 1 _ rfl; (with_reducible repeat (first | refine blk_drewN ?_ _ | refine blk_drew ?_ | refine blk_alloc ?_ _)); refine blk_put (cs := #[.int .i64 0, .int .i64 0, .int .i64 0, .int .i64 0]) ?_ 0 _ rfl; (with_reducible repeat (first | refine blk_drewN ?_ _ | refine blk_drew ?_ | refine blk_alloc ?_ _)); refine blk_far ?_ NB54002_54003.out _; (with_reducible repeat (first | refine blk_drewN ?_ _ | refine blk_drew ?_ | refine blk_alloc ?_ _)); refine blk_far ?_ NB54002_54003.out _; (with_reducible repeat (first | refine blk_drewN ?_ _ | refine blk_drew ?_ | refine blk_alloc ?_ _)); refine blk_far ?_ NB54002_54003.out _; (with_reducible repeat (first | refine blk_drewN ?_ _ | refine blk_drew ?_ | refine blk_alloc ?_ _)); refine blk_far ?_ NB54002_54003.out _; (with_reducible repeat (first | refine blk_drewN ?_ _ | refine blk_drew ?_ | refine blk_alloc ?_ _)); exact BK54002.out) Try.underlying50 rfl (by kernel_rfl)) rfl ?_
  exact ⟨by first | rfl | (simp [errW_none, errW_some] <;> rfl) | (simp [*, errW_none, errW_some] <;> rfl), by repeat (first | (with_reducible first | exact HB.out | apply below_alloc | apply pw_below_drewN | apply below_drew1 | refine below_set ?_ GE54001.out | refine below_set ?_ GE54002.out | refine below_set ?_ GE54003.out) | exact HB.out)⟩


def laws_toIntS.l0 : Nat → List Int → List Int → Int → Option (List Int)
  | 0, _, _, _ => none
  | k + 1, x0, x3, x4 => if x4 < (x0.length : Int) then (if 0 ≤ x4 then (if x4 < (x3.length : Int) then (laws_toIntS.l0 k x0 (x3.set (x4 : Int).toNat (rd x0 x4)) (wrap64 (x4 + 1))) else (none)) else (none)) else (some x3)
def laws_toIntS.f (k : Nat) (l0 : List Int) : Option (List Int) := if 0 ≤ (l0.length : Int) then (if ((l0.length : Int) : Int).toNat ≤ 35184372088832 then (laws_toIntS.l0 k l0 (List.replicate ((l0.length : Int) : Int).toNat 0) 0) else (none)) else (none)
set_option maxHeartbeats 8000000 in
set_option maxRecDepth 100000 in
theorem laws_toIntS.calls (k : Nat) (A0 : Option Addr) (c0 : Nat) (l0 : List Int) (r : List Int) (w : World) (hr0 : Kd.C (Kd.int .i64) w A0 l0.length l0) (hc0 : l0.length ≤ c0) (h : laws_toIntS.f k l0 = some r) :
    Calls Try.prog 94 #[.slice A0 l0.length c0] w fun e w' => ∃ v0_ : Value, e = .returned (v0_) ∧ Kd.R (Kd.int .i64) 3 w' w.heap.size (fun _ => True) v0_ r ∧ Below w.heap.size w w' := by
  have HR0 := Aside0.mk hr0
  have HC0 := Aside0.mk hc0
  clear hr0 hc0
  have HB := Aside0.mk (Below.refl w.heap.size w)
  have H : (if 0 ≤ (l0.length : Int) then (if ((l0.length : Int) : Int).toNat ≤ 35184372088832 then (laws_toIntS.l0 k l0 (List.replicate ((l0.length : Int) : Int).toNat 0) 0) else (none)) else (none)) = some r := h
  clear h
  by_cases c2 : 0 ≤ (l0.length : Int)
  · rw [if_pos c2] at H
    have c2b0 := eq_true c2
    have c2b1 : decide (0 ≤ (l0.length : Int)) = true := decide_eq_true c2
    clear c2
    by_cases c3 : ((l0.length : Int) : Int).toNat ≤ 35184372088832
    · rw [if_pos c3] at H
      have c3b0 := eq_true c3
      have c3b1 : decide (((l0.length : Int) : Int).toNat ≤ 35184372088832) = true := decide_eq_true c3
      clear c3
      obtain ⟨y95001, hy95001⟩ : ∃ y_ : List Int, y_ = (List.replicate ((l0.length : Int) : Int).toNat 0) := ⟨_, rfl⟩
      replace H : (laws_toIntS.l0 k l0 y95001 0) = some r := by first | (rw [hy95001]; with_reducible exact H) | (have H2_ := (Option.bind_some _ _).symm.trans H; rw [hy95001]; with_reducible exact H2_) | (have H2_ := (Option.bind_some _ _).symm.trans H; with_reducible exact H2_) | with_reducible exact H | (rw [hy95001]; exact H) | exact H
      have Ny95001 := Aside0.mk hy95001
      clear hy95001
      have H' := Aside0.mk H
      clear H
      go_enter Try.func94, Try.ntmps94
      go_wp2_with (first | ((with_reducible refine gate_dst (N := 7) rfl ?_); refine Kd.R_make (Kd.int .i64) _ 3 rfl (N := 7) rfl 57 _ _ rfl (l0.length : Int) rfl rfl Try.underlying57 (.int .i64 0) 8 info3 rfl (by decide) (by omega) 0 (ok := fun _ => True) (okp := fun _ => True) rfl (fun _ hk => hk) trivial (of_decide_eq_true (by first | (with_reducible assumption) | assumption)) (Nat.le_trans (Nat.mul_le_mul_right _ (of_decide_eq_true (by first | (with_reducible assumption) | assumption) : (l0.length : Int).toNat ≤ 35184372088832)) (by omega)) (Below.refl _ _) (Nat.le_refl _) ?_; intro v95002 w4 ho5 hb hg_ hnew_; clear hg_ hnew_; (first | rw [← Ny95001.out] at ho5 | (simp only [Int.reduceToNat] at ho5; rw [← Ny95001.out] at ho5)); have n0_ := Aside0.mk (Kd.R_lower ho5 (below_size (by repeat (first | (with_reducible first | exact HB.out | apply below_alloc | apply pw_below_drewN | apply below_drew1) | exact HB.out)))); have n1_ := Aside0.mk (below_step (by repeat (first | (with_reducible first | exact HB.out | apply below_alloc | apply pw_below_drewN | apply below_drew1) | exact HB.out)) hb); clear HB; have HO95003 := n0_; have HB := n1_; clear n0_ n1_; clear hb ho5))
      go_loopg [4] k (fun kq v4 w' => ∃ (x3_1 : List Int) (x4_1 : Int), v4 = .int .i64 x4_1 ∧ Aside0 (laws_toIntS.l0 kq l0 x3_1 x4_1 = some r) ∧ Aside0 (kq ≤ k) ∧ Aside0 (Kd.R (Kd.int .i64) 3 w' w.heap.size (fun _ => True) v95002 x3_1) ∧ Aside0 (Below w.heap.size w w'))
      case atStart => exact ⟨(y95001), (0), (by first | rfl | (simp; done) | (simp [*]; done)), H', ⟨Nat.le_refl _⟩, ⟨by (with_reducible repeat (first | apply Kd.R_alloc | apply Kd.R_drewN | apply Kd.R_drew)); exact HO95003.out⟩, ⟨by repeat (first | (with_reducible first | exact HB.out | apply below_alloc | apply pw_below_drewN | apply below_drew1) | exact HB.out)⟩⟩
      case round =>
        clear H'
        try clear c2
        try clear c2b0
        try clear c2b1
        try clear p2
        try clear c3
        try clear c3b0
        try clear c3b1
        obtain ⟨x3_1, x4_1, rfl, HA, HK1, HO_3, HB⟩ := hrel
        cases gk with
        | zero => exact absurd HA.out (by simp [laws_toIntS.l0])
        | succ k1 =>
          have H := HA.out
          clear HA
          simp only [laws_toIntS.l0] at H
          by_cases c6 : x4_1 < (l0.length : Int)
          · rw [if_pos c6] at H
            have c6b0 : decide (x4_1 < (l0.length : Int)) = true := decide_eq_true c6
            clear c6
            by_cases c7 : 0 ≤ x4_1
            · rw [if_pos c7] at H
              have c7b0 : decide (0 ≤ x4_1) = true := decide_eq_true c7
              clear c7
              by_cases c8 : x4_1 < (x3_1.length : Int)
              · rw [if_pos c8] at H
                have c8b0 : decide (x4_1 < (x3_1.length : Int)) = true := decide_eq_true c8
                clear c8
                obtain ⟨y95005, hy95005⟩ : ∃ y_ : List Int, y_ = (x3_1.set (x4_1 : Int).toNat (rd l0 x4_1)) := ⟨_, rfl⟩
                replace H : (laws_toIntS.l0 k1 l0 y95005 (wrap64 (x4_1 + 1))) = some r := by first | (rw [hy95005]; with_reducible exact H) | (have H2_ := (Option.bind_some _ _).symm.trans H; rw [hy95005]; with_reducible exact H2_) | (have H2_ := (Option.bind_some _ _).symm.trans H; with_reducible exact H2_) | with_reducible exact H | (rw [hy95005]; exact H) | exact H
                have Ny95005 := Aside0.mk hy95005
                clear hy95005
                have H' := Aside0.mk H
                clear H
                have p95004 : 0 ≤ (x4_1 : Int) := of_decide_eq_true (by first | (with_reducible assumption) | assumption)
                have q95004 : x4_1 < (l0.length : Int) := of_decide_eq_true (by first | (with_reducible assumption) | assumption)
                obtain ⟨ad95004, e95004, hx95004_0⟩ := Kd.at_int HR0.out x4_1 p95004 q95004
                cases e95004
                replace hx95004_0 := (HB.out.cell (World.block_lt_of_cell? w _ hx95004_0)).trans hx95004_0
                replace p95004 := eq_true p95004
                replace q95004 := eq_true q95004
                have p9 : 0 ≤ (x4_1 : Int) := of_decide_eq_true (by first | (with_reducible assumption) | assumption)
                have q9 : (x4_1 : Int) < ((x3_1.length : Int) : Int) := of_decide_eq_true (by first | (with_reducible assumption) | assumption)
                obtain ⟨go9, co9, eo9, gb9, gl9, cl9, HG9⟩ := Kd.R_form HO_3.out (by omega)
                (first | cases eo9 | (injection eo9 with ea_ en_ ec_; (first | subst ea_ | (injection ea_ with ea_; subst ea_)); subst ec_; clear en_))
                have GB9 := Aside0.mk gb9
                have GG9 := Aside0.mk HG9
                clear gb9 gl9 HG9
                obtain ⟨hx9_0, hf9_0⟩ := Kd.R_celln 0 HO_3.out (x4_1 : Int) p9 q9
                replace p9 := eq_true p9
                replace q9 := eq_true q9
                have HP10 := Kd.R_putg HO_3.out (x4_1 : Int) (rd l0 x4_1)
                go_wp2_with (first | ((with_reducible refine gate_store (t := 3) (p := 20) rfl ?_); refine store_event (t := 3) (p := 20) (v := ?vo_w11) (w1 := (wr.setCell ⟨go9, (x4_1 : Int).toNat, none⟩ (.int .i64 (rd l0 x4_1)))) ?hg ?ho ?hn ?hr ?_; (case ho => rfl); (case hg => rfl); (case hn => rfl); (case hr => first | (go_simp; done) | (go_simp; rfl)); intro w11 hw; have hg : wr.grownBy w11 (some go9) := (by rw [hw]; exact HP10.2); have hp_ : Kd.R (Kd.int .i64) 3 w11 w.heap.size (fun _ => True) (.slice (some ⟨go9, 0, none⟩) x3_1.length co9) y95005 := (by rw [hw, Ny95005.out]; exact HP10.1); clear HP10; have n0_ := Aside0.mk (hp_); have n1_ := Aside0.mk ((by rw [hw]; exact below_set (HB.out) GB9.out : Below w.heap.size w w11)); clear HO_3; clear HB; have HO_3 := n0_; have HB := n1_; clear n0_ n1_; clear hg hw hp_))
                go_roundg k1
                case measure => have := HK1.out; omega
                case rel => exact ⟨(y95005), (wrap64 (x4_1 + 1)), (by first | rfl | (simp; done) | (simp [*]; done)), H', ⟨by have := HK1.out; omega⟩, ⟨by (with_reducible repeat (first | apply Kd.R_alloc | apply Kd.R_drewN | apply Kd.R_drew)); exact HO_3.out⟩, ⟨by repeat (first | (with_reducible first | exact HB.out | apply below_alloc | apply pw_below_drewN | apply below_drew1) | exact HB.out)⟩⟩
              · rw [if_neg c8] at H
                exact absurd H (by simp)
            · rw [if_neg c7] at H
              exact absurd H (by simp)
          · rw [if_neg c6] at H
            have c6b0 : decide (x4_1 < (l0.length : Int)) = false := decide_eq_false c6
            clear c6
            obtain rfl := Option.some.inj H
            go_wp2
            go_ret
            exact ⟨_, by first | rfl | (simp [errW_none, errW_some] <;> rfl) | (simp [*, errW_none, errW_some] <;> rfl), by (with_reducible repeat (first | apply Kd.R_alloc | apply Kd.R_drewN | apply Kd.R_drew)); exact HO_3.out, by repeat (first | (with_reducible first | exact HB.out | apply below_alloc | apply pw_below_drewN | apply below_drew1) | exact HB.out)⟩
    · rw [if_neg c3] at H
      exact absurd H (by simp)
  · rw [if_neg c2] at H
    exact absurd H (by simp)


def laws_toStep.f (k : Nat) (a0_0 : Int) (a0_1 : Int) (a0_2 : Int) (a0_3 : Int) (a0_4 : Int) (l0_5 : List Int) : Option (Int × Int × Int × Int × Int × List Int) := (laws_toBox.f a0_1 a0_2 a0_3 a0_4).bind fun bt78004 => ((laws_toIntS.f k l0_5).bind fun t78008 => (some (a0_0, bt78004.1, bt78004.2.1, bt78004.2.2.1, bt78004.2.2.2, t78008)))
set_option maxHeartbeats 8000000 in
set_option maxRecDepth 100000 in
theorem laws_toStep.calls (k : Nat) (a0_0 : Int) (a0_1 : Int) (a0_2 : Int) (a0_3 : Int) (a0_4 : Int) (A0_5 : Option Addr) (c0_5 : Nat) (l0_5 : List Int) (r1 : Int) (r2 : Int) (r3 : Int) (r4 : Int) (r5 : Int) (r6 : List Int) (w : World) (hr0_5 : Kd.C (Kd.int .i64) w A0_5 l0_5.length l0_5) (hc0_5 : l0_5.length ≤ c0_5) (h : laws_toStep.f k a0_0 a0_1 a0_2 a0_3 a0_4 l0_5 = some (r1, r2, r3, r4, r5, r6)) :
    Calls Try.prog 77 #[.agg #[.int .i64 a0_0, .int .i64 a0_1, .int .i64 a0_2, .int .i64 a0_3, .int .i64 a0_4, .slice A0_5 l0_5.length c0_5]] w fun e w' => ∃ v5_ : Value, e = .returned (.agg #[.int .i64 r1, .int .i64 r2, .int .i64 r3, .int .i64 r4, .int .i64 r5, v5_]) ∧ Kd.R (Kd.int .i64) 3 w' w.heap.size (fun _ => True) v5_ r6 ∧ Below w.heap.size w w' := by
  have hu98 := Try.underlying98
  have hu59 := Try.underlying59
  have hu71 := Try.underlying71
  have hu50 := Try.underlying50
  have HR0_5 := Aside0.mk hr0_5
  have HC0_5 := Aside0.mk hc0_5
  clear hr0_5 hc0_5
  have HB := Aside0.mk (Below.refl w.heap.size w)
  have H : ((laws_toBox.f a0_1 a0_2 a0_3 a0_4).bind fun bt78004 => ((laws_toIntS.f k l0_5).bind fun t78008 => (some (a0_0, bt78004.1, bt78004.2.1, bt78004.2.2.1, bt78004.2.2.2, t78008)))) = some (r1, r2, r3, r4, r5, r6) := h
  clear h
  replace H := Option.bind_eq_some_iff.mp H
  obtain ⟨⟨t78004, t78005, t78006, t78007⟩, A20, H⟩ := H
  replace H : ((laws_toIntS.f k l0_5).bind fun t78008 => (some (a0_0, t78004, t78005, t78006, t78007, t78008))) = some (r1, r2, r3, r4, r5, r6) := H
  have A2 := Aside0.mk A20
  clear A20
  replace H := Option.bind_eq_some_iff.mp H
  obtain ⟨t78008, A30, H⟩ := H
  replace H : (some (a0_0, t78004, t78005, t78006, t78007, t78008)) = some (r1, r2, r3, r4, r5, r6) := H
  have A3 := Aside0.mk A30
  clear A30
  simp only [Option.some.injEq, Prod.mk.injEq] at H
  obtain ⟨rfl, rfl, rfl, rfl, rfl, rfl⟩ := H
  go_enter Try.func77, Try.ntmps77
  go_wp2_with (first | ((with_reducible refine gate_dst (N := 1) rfl ?_); refine box_event ?hg (N := 1) ?hd (cs := #[.int .i64 a0_0, .int .i64 a0_1, .int .i64 a0_2, .int .i64 a0_3, .int .i64 a0_4, .slice A0_5 l0_5.length c0_5]) (t := 98) ?hr ?_; (case hd => rfl); (case hg => rfl); (case hr => first | (go_simp; done) | (go_simp; rfl)); intro gb78001 hg w4 hbox hb; have n0_ := Aside0.mk (below_step (by repeat (first | (with_reducible first | exact HB.out | apply below_alloc | apply pw_below_drewN | apply below_drew1) | exact HB.out)) hb); have n1_ := Aside0.mk (hbox); have n2_ := Aside0.mk ((by rw [hg]; exact (below_size (by repeat (first | (with_reducible first | exact HB.out | apply below_alloc | apply pw_below_drewN | apply below_drew1) | exact HB.out))) : w.heap.size ≤ gb78001)); have n3_ := Aside0.mk ((by rw [hg]; exact (below_size (by repeat (first | (with_reducible first | exact HB.out | apply below_alloc | apply pw_below_drewN | apply below_drew1) | exact HB.out))) : w.heap.size ≤ gb78001)); clear HB; have HB := n0_; have BK78001 := n1_; have GW78001 := n2_; have GE78001 := n3_; clear n0_ n1_ n2_ n3_; clear hb hbox hg) | ((with_reducible refine gate_dst (N := 2) rfl ?_); refine box_event ?hg (N := 2) ?hd (cs := #[.int .i64 0, .int .i64 0, .int .i64 0, .int .i64 0, .int .i64 0, .slice none 0 0]) (t := 59) ?hr ?_; (case hd => rfl); (case hg => rfl); (case hr => first | (go_simp; done) | (go_simp; rfl)); intro gb78002 hg w5 hbox hb; have n0_ := Aside0.mk (blk_below (g := gb78001) (o := .cells #[.int .i64 a0_0, .int .i64 a0_1, .int .i64 a0_2, .int .i64 a0_3, .int .i64 a0_4, .slice A0_5 l0_5.length c0_5] 98 (0, 0)) (by (with_reducible repeat (first | refine blk_drewN ?_ _ | refine blk_drew ?_ | refine blk_alloc ?_ _)); exact BK78001.out) hb); have n1_ := Aside0.mk (below_step (by repeat (first | (with_reducible first | exact HB.out | apply below_alloc | apply pw_below_drewN | apply below_drew1 | refine below_set ?_ GE78001.out) | exact HB.out)) hb); have n2_ := Aside0.mk (hbox); have n3_ := Aside0.mk ((by rw [hg]; exact (below_size (by repeat (first | (with_reducible first | exact HB.out | apply below_alloc | apply pw_below_drewN | apply below_drew1 | refine below_set ?_ GE78001.out) | exact HB.out))) : w.heap.size ≤ gb78002)); have n4_ := Aside0.mk ((by rw [hg]; exact (below_size (by repeat (first | (with_reducible first | exact HB.out | apply below_alloc | apply pw_below_drewN | apply below_drew1 | refine below_set ?_ GE78001.out) | exact HB.out))) : w.heap.size ≤ gb78002)); have n5_ := Aside0.mk ((by rw [hg]; exact Nat.ne_of_lt (blk_lt (g := gb78001) (o := .cells #[.int .i64 a0_0, .int .i64 a0_1, .int .i64 a0_2, .int .i64 a0_3, .int .i64 a0_4, .slice A0_5 l0_5.length c0_5] 98 (0, 0)) (by (with_reducible repeat (first | refine blk_drewN ?_ _ | refine blk_drew ?_ | refine blk_alloc ?_ _)); exact BK78001.out)) : gb78001 ≠ gb78002)); have n6_ := Aside0.mk ((by rw [hg]; exact Nat.ne_of_gt (blk_lt (g := gb78001) (o := .cells #[.int .i64 a0_0, .int .i64 a0_1, .int .i64 a0_2, .int .i64 a0_3, .int .i64 a0_4, .slice A0_5 l0_5.length c0_5] 98 (0, 0)) (by (with_reducible repeat (first | refine blk_drewN ?_ _ | refine blk_drew ?_ | refine blk_alloc ?_ _)); exact BK78001.out)) : gb78002 ≠ gb78001)); clear BK78001; clear HB; have BK78001 := n0_; have HB := n1_; have BK78002 := n2_; have GW78002 := n3_; have GE78002 := n4_; have NB78001_78002 := n5_; have NB78002_78001 := n6_; clear n0_ n1_ n2_ n3_ n4_ n5_ n6_; clear hb hbox hg) | ((with_reducible refine gate_dst (N := 3) rfl ?_); refine box_event ?hg (N := 3) ?hd (cs := #[.int .i64 0, .int .i64 0, .int .i64 0, .int .i64 0, .int .i64 0, .slice none 0 0]) (t := 59) ?hr ?_; (case hd => rfl); (case hg => rfl); (case hr => first | (go_simp; done) | (go_simp; rfl)); intro gb78003 hg w6 hbox hb; have n0_ := Aside0.mk (blk_below (g := gb78001) (o := .cells #[.int .i64 a0_0, .int .i64 a0_1, .int .i64 a0_2, .int .i64 a0_3, .int .i64 a0_4, .slice A0_5 l0_5.length c0_5] 98 (0, 0)) (by (with_reducible repeat (first | refine blk_drewN ?_ _ | refine blk_drew ?_ | refine blk_alloc ?_ _)); exact BK78001.out) hb); have n1_ := Aside0.mk (blk_below (g := gb78002) (o := .cells #[.int .i64 0, .int .i64 0, .int .i64 0, .int .i64 0, .int .i64 0, .slice none 0 0] 59 (0, 0)) (by (with_reducible repeat (first | refine blk_drewN ?_ _ | refine blk_drew ?_ | refine blk_alloc ?_ _)); exact BK78002.out) hb); have n2_ := Aside0.mk (below_step (by repeat (first | (with_reducible first | exact HB.out | apply below_alloc | apply pw_below_drewN | apply below_drew1 | refine below_set ?_ GE78001.out | refine below_set ?_ GE78002.out) | exact HB.out)) hb); have n3_ := Aside0.mk (hbox); have n4_ := Aside0.mk ((by rw [hg]; exact (below_size (by repeat (first | (with_reducible first | exact HB.out | apply below_alloc | apply pw_below_drewN | apply below_drew1 | refine below_set ?_ GE78001.out | refine below_set ?_ GE78002.out) | exact HB.out))) : w.heap.size ≤ gb78003)); have n5_ := Aside0.mk ((by rw [hg]; exact (below_size (by repeat (first | (with_reducible first | exact HB.out | apply below_alloc | apply pw_below_drewN | apply below_drew1 | refine below_set ?_ GE78001.out | refine below_set ?_ GE78002.out) | exact HB.out))) : w.heap.size ≤ gb78003)); have n6_ := Aside0.mk ((by rw [hg]; exact Nat.ne_of_lt (blk_lt (g := gb78001) (o := .cells #[.int .i64 a0_0, .int .i64 a0_1, .int .i64 a0_2, .int .i64 a0_3, .int .i64 a0_4, .slice A0_5 l0_5.length c0_5] 98 (0, 0)) (by (with_reducible repeat (first | refine blk_drewN ?_ _ | refine blk_drew ?_ | refine blk_alloc ?_ _)); exact BK78001.out)) : gb78001 ≠ gb78003)); have n7_ := Aside0.mk ((by rw [hg]; exact Nat.ne_of_gt (blk_lt (g := gb78001) (o := .cells #[.int .i64 a0_0, .int .i64 a0_1, .int .i64 a0_2, .int .i64 a0_3, .int .i64 a0_4, .slice A0_5 l0_5.length c0_5] 98 (0, 0)) (by (with_reducible repeat (first | refine blk_drewN ?_ _ | refine blk_drew ?_ | refine blk_alloc ?_ _)); exact BK78001.out)) : gb78003 ≠ gb78001)); have n8_ := Aside0.mk ((by rw [hg]; exact Nat.ne_of_lt (blk_lt (g := gb78002) (o := .cells #[.int .i64 0, .int .i64 0, .int .i64 0, .int .i64 0, .int .i64 0, .slice none 0 0] 59 (0, 0)) (by (with_reducible repeat (first | refine blk_drewN ?_ _ | refine blk_drew ?_ | refine blk_alloc ?_ _)); exact BK78002.out)) : gb78002 ≠ gb78003)); have n9_ := Aside0.mk ((by rw [hg]; exact Nat.ne_of_gt (blk_lt (g := gb78002) (o := .cells #[.int .i64 0, .int .i64 0, .int .i64 0, .int .i64 0, .int .i64 0, .slice none 0 0] 59 (0, 0)) (by (with_reducible repeat (first | refine blk_drewN ?_ _ | refine blk_drew ?_ | refine blk_alloc ?_ _)); exact BK78002.out)) : gb78003 ≠ gb78002)); clear BK78001; clear BK78002; clear HB; have BK78001 := n0_; have BK78002 := n1_; have HB := n2_; have BK78003 := n3_; have GW78003 := n4_; have GE78003 := n5_; have NB78001_78003 := n6_; have NB78003_78001 := n7_; have NB78002_78003 := n8_; have NB78003_78002 := n9_; clear n0_ n1_ n2_ n3_ n4_ n5_ n6_ n7_ n8_ n9_; clear hb hbox hg; have hnb7 := NB78001_78002.out; have hnc7 := NB78002_78001.out; have hnb8 := NB78001_78003.out; have hnc8 := NB78003_78001.out; have hcz9_0 : w6.cell? ⟨gb78001, 0, none⟩ = some (.int .i64 a0_0) := (blk_cell BK78001.out 0).trans rfl; have hcz9_1 : w6.cell? ⟨gb78001, 1, none⟩ = some (.int .i64 a0_1) := (blk_cell BK78001.out 1).trans rfl; have hcz9_2 : w6.cell? ⟨gb78001, 2, none⟩ = some (.int .i64 a0_2) := (blk_cell BK78001.out 2).trans rfl; have hcz9_3 : w6.cell? ⟨gb78001, 3, none⟩ = some (.int .i64 a0_3) := (blk_cell BK78001.out 3).trans rfl; have hcz9_4 : w6.cell? ⟨gb78001, 4, none⟩ = some (.int .i64 a0_4) := (blk_cell BK78001.out 4).trans rfl; have hcz9_5 : w6.cell? ⟨gb78001, 5, none⟩ = some (.slice A0_5 l0_5.length c0_5) := (blk_cell BK78001.out 5).trans rfl; have hfz9_0 := blk_frozen BK78001.out 0; have hfz9_1 := blk_frozen BK78001.out 1; have hfz9_2 := blk_frozen BK78001.out 2; have hfz9_3 := blk_frozen BK78001.out 3; have hfz9_4 := blk_frozen BK78001.out 4; have hfz9_5 := blk_frozen BK78001.out 5; have hnb10 := NB78003_78002.out; have hnc10 := NB78002_78003.out; have hcz11_0 : w6.cell? ⟨gb78003, 0, none⟩ = some (.int .i64 0) := (blk_cell BK78003.out 0).trans rfl; have hcz11_1 : w6.cell? ⟨gb78003, 1, none⟩ = some (.int .i64 0) := (blk_cell BK78003.out 1).trans rfl; have hcz11_2 : w6.cell? ⟨gb78003, 2, none⟩ = some (.int .i64 0) := (blk_cell BK78003.out 2).trans rfl; have hcz11_3 : w6.cell? ⟨gb78003, 3, none⟩ = some (.int .i64 0) := (blk_cell BK78003.out 3).trans rfl; have hcz11_4 : w6.cell? ⟨gb78003, 4, none⟩ = some (.int .i64 0) := (blk_cell BK78003.out 4).trans rfl; have hcz11_5 : w6.cell? ⟨gb78003, 5, none⟩ = some (.slice none 0 0) := (blk_cell BK78003.out 5).trans rfl; have hfz11_0 := blk_frozen BK78003.out 0; have hfz11_1 := blk_frozen BK78003.out 1; have hfz11_2 := blk_frozen BK78003.out 2; have hfz11_3 := blk_frozen BK78003.out 3; have hfz11_4 := blk_frozen BK78003.out 4; have hfz11_5 := blk_frozen BK78003.out 5) | ((with_reducible refine gate_callee (f := 53) rfl ?_); refine goesL_ (some 9) rfl rfl Try.func53 (by kernel_rfl) rfl #[.agg #[.int .i64 a0_1, .int .i64 a0_2, .int .i64 a0_3, .int .i64 a0_4]] rfl (by (try simp only [List.map_toArray, List.map_cons, List.map_nil]); first | done | rfl | (simp only [List.length_drop, List.length_take]; rfl)) ?_; (with_reducible refine (laws_toBox.calls a0_1 a0_2 a0_3 a0_4 t78004 t78005 t78006 t78007 _ A2.out).mono ?_); rintro e w12 ⟨rfl, hb⟩; refine ⟨_, rfl, ?_⟩; have n0_ := Aside0.mk (blk_below (g := gb78001) (o := .cells #[.int .i64 a0_0, .int .i64 a0_1, .int .i64 a0_2, .int .i64 a0_3, .int .i64 a0_4, .slice A0_5 l0_5.length c0_5] 98 (0, 0)) (by (with_reducible repeat (first | refine blk_drewN ?_ _ | refine blk_drew ?_ | refine blk_alloc ?_ _)); refine blk_far ?_ NB78001_78003.out _; (with_reducible repeat (first | refine blk_drewN ?_ _ | refine blk_drew ?_ | refine blk_alloc ?_ _)); exact BK78001.out) hb); have n1_ := Aside0.mk (blk_below (g := gb78002) (o := .cells #[.int .i64 0, .int .i64 0, .int .i64 0, .int .i64 0, .int .i64 0, .slice none 0 0] 59 (0, 0)) (by (with_reducible repeat (first | refine blk_drewN ?_ _ | refine blk_drew ?_ | refine blk_alloc ?_ _)); refine blk_far ?_ NB78002_78003.out _; (with_reducible repeat (first | refine blk_drewN ?_ _ | refine blk_drew ?_ | refine blk_alloc ?_ _)); exact BK78002.out) hb); have n2_ := Aside0.mk (blk_below (g := gb78003) (o := .cells #[.int .i64 a0_0, .int .i64 0, .int .i64 0, .int .i64 0, .int .i64 0, .slice none 0 0] 59 (0, 0)) (by (with_reducible repeat (first | refine blk_drewN ?_ _ | refine blk_drew ?_ | refine blk_alloc ?_ _)); refine blk_put (cs := #[.int .i64 0, .int .i64 0, .int .i64 0, .int .i64 0, .int .i64 0, .slice none 0 0]) ?_ 0 _ rfl; (with_reducible repeat (first | refine blk_drewN ?_ _ | refine blk_drew ?_ | refine blk_alloc ?_ _)); exact BK78003.out) hb); have n3_ := Aside0.mk (below_step (by repeat (first | (with_reducible first | exact HB.out | apply below_alloc | apply pw_below_drewN | apply below_drew1 | refine below_set ?_ GE78001.out | refine below_set ?_ GE78002.out | refine below_set ?_ GE78003.out) | exact HB.out)) hb); clear BK78001; clear BK78002; clear BK78003; clear HB; have BK78001 := n0_; have BK78002 := n1_; have BK78003 := n2_; have HB := n3_; clear n0_ n1_ n2_ n3_; (try clear hb); (try clear hb2); (try clear hk); (try clear hi); have hcz13_0 : w12.cell? ⟨gb78003, 0, none⟩ = some (.int .i64 a0_0) := (blk_cell BK78003.out 0).trans rfl; have hcz13_1 : w12.cell? ⟨gb78003, 1, none⟩ = some (.int .i64 0) := (blk_cell BK78003.out 1).trans rfl; have hcz13_2 : w12.cell? ⟨gb78003, 2, none⟩ = some (.int .i64 0) := (blk_cell BK78003.out 2).trans rfl; have hcz13_3 : w12.cell? ⟨gb78003, 3, none⟩ = some (.int .i64 0) := (blk_cell BK78003.out 3).trans rfl; have hcz13_4 : w12.cell? ⟨gb78003, 4, none⟩ = some (.int .i64 0) := (blk_cell BK78003.out 4).trans rfl; have hcz13_5 : w12.cell? ⟨gb78003, 5, none⟩ = some (.slice none 0 0) := (blk_cell BK78003.out 5).trans rfl; have hfz13_0 := blk_frozen BK78003.out 0; have hfz13_1 := blk_frozen BK78003.out 1; have hfz13_2 := blk_frozen BK78003.out 2; have hfz13_3 := blk_frozen BK78003.out 3; have hfz13_4 := blk_frozen BK78003.out 4; have hfz13_5 := blk_frozen BK78003.out 5; have hcz14_0 : w12.cell? ⟨gb78001, 0, none⟩ = some (.int .i64 a0_0) := (blk_cell BK78001.out 0).trans rfl; have hcz14_1 : w12.cell? ⟨gb78001, 1, none⟩ = some (.int .i64 a0_1) := (blk_cell BK78001.out 1).trans rfl; have hcz14_2 : w12.cell? ⟨gb78001, 2, none⟩ = some (.int .i64 a0_2) := (blk_cell BK78001.out 2).trans rfl; have hcz14_3 : w12.cell? ⟨gb78001, 3, none⟩ = some (.int .i64 a0_3) := (blk_cell BK78001.out 3).trans rfl; have hcz14_4 : w12.cell? ⟨gb78001, 4, none⟩ = some (.int .i64 a0_4) := (blk_cell BK78001.out 4).trans rfl; have hcz14_5 : w12.cell? ⟨gb78001, 5, none⟩ = some (.slice A0_5 l0_5.length c0_5) := (blk_cell BK78001.out 5).trans rfl; have hfz14_0 := blk_frozen BK78001.out 0; have hfz14_1 := blk_frozen BK78001.out 1; have hfz14_2 := blk_frozen BK78001.out 2; have hfz14_3 := blk_frozen BK78001.out 3; have hfz14_4 := blk_frozen BK78001.out 4; have hfz14_5 := blk_frozen BK78001.out 5) | ((with_reducible refine gate_callee (f := 94) rfl ?_); refine goesL_ (some 13) rfl rfl Try.func94 (by kernel_rfl) rfl #[.slice A0_5 l0_5.length c0_5] rfl (by (try simp only [List.map_toArray, List.map_cons, List.map_nil]); first | done | rfl | (simp only [List.length_drop, List.length_take]; rfl)) ?_; (with_reducible refine (laws_toIntS.calls k _ _ l0_5 t78008 _ ?side1 ?side2 A3.out).mono ?_); (case side1 => exact Kd.C_below HR0_5.out (by repeat (first | (with_reducible first | exact HB.out | apply below_alloc | apply pw_below_drewN | apply below_drew1 | refine below_set ?_ GE78001.out | refine below_set ?_ GE78002.out | refine below_set ?_ GE78003.out) | exact HB.out))); (case side2 => exact HC0_5.out); rintro e w15 ⟨v78009, rfl, ho0, hb⟩; refine ⟨_, rfl, ?_⟩; have n0_ := Aside0.mk (Kd.R_lower ho0 (below_size (by repeat (first | (with_reducible first | exact HB.out | apply below_alloc | apply pw_below_drewN | apply below_drew1 | refine below_set ?_ GE78001.out | refine below_set ?_ GE78002.out | refine below_set ?_ GE78003.out) | exact HB.out)))); have n1_ := Aside0.mk (blk_below (g := gb78001) (o := .cells #[.int .i64 a0_0, .int .i64 a0_1, .int .i64 a0_2, .int .i64 a0_3, .int .i64 a0_4, .slice A0_5 l0_5.length c0_5] 98 (0, 0)) (by (with_reducible repeat (first | refine blk_drewN ?_ _ | refine blk_drew ?_ | refine blk_alloc ?_ _)); refine blk_far ?_ NB78001_78003.out _; (with_reducible repeat (first | refine blk_drewN ?_ _ | refine blk_drew ?_ | refine blk_alloc ?_ _)); refine blk_far ?_ NB78001_78003.out _; (with_reducible repeat (first | refine blk_drewN ?_ _ | refine blk_drew ?_ | refine blk_alloc ?_ _)); refine blk_far ?_ NB78001_78003.out _; (with_reducible repeat (first | refine blk_drewN ?_ _ | refine blk_drew ?_ | refine blk_alloc ?_ _)); refine blk_far ?_ NB78001_78003.out _; (with_reducible repeat (first | refine blk_drewN ?_ _ | refine blk_drew ?_ | refine blk_alloc ?_ _)); exact BK78001.out) hb); have n2_ := Aside0.mk (blk_below (g := gb78002) (o := .cells #[.int .i64 0, .int .i64 0, .int .i64 0, .int .i64 0, .int .i64 0, .slice none 0 0] 59 (0, 0)) (by (with_reducible repeat (first | refine blk_drewN ?_ _ | refine blk_drew ?_ | refine blk_alloc ?_ _)); refine blk_far ?_ NB78002_78003.out _; (with_reducible repeat (first | refine blk_drewN ?_ _ | refine blk_drew ?_ | refine blk_alloc ?_ _)); refine blk_far ?_ NB78002_78003.out _; (with_reducible repeat (first | refine blk_drewN ?_ _ | refine blk_drew ?_ | refine blk_alloc ?_ _)); refine blk_far ?_ NB78002_78003.out _; (with_reducible repeat (first | refine blk_drewN ?_ _ | refine blk_drew ?_ | refine blk_alloc ?_ _)); refine blk_far ?_ NB78002_78003.out _; (with_reducible repeat (first | refine blk_drewN ?_ _ | refine blk_drew ?_ | refine blk_alloc ?_ _)); exact BK78002.out) hb); have n3_ := Aside0.mk (blk_below (g := gb78003) (o := .cells #[.int .i64 a0_0, .int .i64 t78004, .int .i64 t78005, .int .i64 t78006, .int .i64 t78007, .slice none 0 0] 59 (0, 0)) (by (with_reducible repeat (first | refine blk_drewN ?_ _ | refine blk_drew ?_ | refine blk_alloc ?_ _)); refine blk_put (cs := #[.int .i64 a0_0, .int .i64 t78004, .int .i64 t78005, .int .i64 t78006, .int .i64 0, .slice none 0 0]) ?_ 4 _ rfl; (with_reducible repeat (first | refine blk_drewN ?_ _ | refine blk_drew ?_ | refine blk_alloc ?_ _)); refine blk_put (cs := #[.int .i64 a0_0, .int .i64 t78004, .int .i64 t78005, .int .i64 0, .int .i64 0, .slice none 0 0]) ?_ 3 _ rfl; (with_reducible repeat (first | refine blk_drewN ?_ _ | refine blk_drew ?_ | refine blk_alloc ?_ _)); refine blk_put (cs := #[.int .i64 a0_0, .int .i64 t78004, .int .i64 0, .int .i64 0, .int .i64 0, .slice none 0 0]) ?_ 2 _ rfl; (with_reducible repeat (first | refine blk_drewN ?_ _ | refine blk_drew ?_ | refine blk_alloc ?_ _)); refine blk_put (cs := #[.int .i64 a0_0, .int .i64 0, .int .i64 0, .int .i64 0, .int .i64 0, .slice none 0 0]) ?_ 1 _ rfl; (with_reducible repeat (first | refine blk_drewN ?_ _ | refine blk_drew ?_ | refine blk_alloc ?_ _)); exact BK78003.out) hb); have n4_ := Aside0.mk (below_step (by repeat (first | (with_reducible first | exact HB.out | apply below_alloc | apply pw_below_drewN | apply below_drew1 | refine below_set ?_ GE78001.out | refine below_set ?_ GE78002.out | refine below_set ?_ GE78003.out) | exact HB.out)) hb); clear BK78001; clear BK78002; clear BK78003; clear HB; have HO78010 := n0_; have BK78001 := n1_; have BK78002 := n2_; have BK78003 := n3_; have HB := n4_; clear n0_ n1_ n2_ n3_ n4_; (try clear hb); (try clear hb2); (try clear hk); (try clear hi); (try clear ho0); obtain ⟨Ao16, co16, eo16⟩ := Kd.R_slice HO78010.out; subst eo16; have hcz17_0 : w15.cell? ⟨gb78003, 0, none⟩ = some (.int .i64 a0_0) := (blk_cell BK78003.out 0).trans rfl; have hcz17_1 : w15.cell? ⟨gb78003, 1, none⟩ = some (.int .i64 t78004) := (blk_cell BK78003.out 1).trans rfl; have hcz17_2 : w15.cell? ⟨gb78003, 2, none⟩ = some (.int .i64 t78005) := (blk_cell BK78003.out 2).trans rfl; have hcz17_3 : w15.cell? ⟨gb78003, 3, none⟩ = some (.int .i64 t78006) := (blk_cell BK78003.out 3).trans rfl; have hcz17_4 : w15.cell? ⟨gb78003, 4, none⟩ = some (.int .i64 t78007) := (blk_cell BK78003.out 4).trans rfl; have hcz17_5 : w15.cell? ⟨gb78003, 5, none⟩ = some (.slice none 0 0) := (blk_cell BK78003.out 5).trans rfl; have hfz17_0 := blk_frozen BK78003.out 0; have hfz17_1 := blk_frozen BK78003.out 1; have hfz17_2 := blk_frozen BK78003.out 2; have hfz17_3 := blk_frozen BK78003.out 3; have hfz17_4 := blk_frozen BK78003.out 4; have hfz17_5 := blk_frozen BK78003.out 5; have hcz18_0 : w15.cell? ⟨gb78002, 0, none⟩ = some (.int .i64 0) := (blk_cell BK78002.out 0).trans rfl; have hcz18_1 : w15.cell? ⟨gb78002, 1, none⟩ = some (.int .i64 0) := (blk_cell BK78002.out 1).trans rfl; have hcz18_2 : w15.cell? ⟨gb78002, 2, none⟩ = some (.int .i64 0) := (blk_cell BK78002.out 2).trans rfl; have hcz18_3 : w15.cell? ⟨gb78002, 3, none⟩ = some (.int .i64 0) := (blk_cell BK78002.out 3).trans rfl; have hcz18_4 : w15.cell? ⟨gb78002, 4, none⟩ = some (.int .i64 0) := (blk_cell BK78002.out 4).trans rfl; have hcz18_5 : w15.cell? ⟨gb78002, 5, none⟩ = some (.slice none 0 0) := (blk_cell BK78002.out 5).trans rfl; have hfz18_0 := blk_frozen BK78002.out 0; have hfz18_1 := blk_frozen BK78002.out 1; have hfz18_2 := blk_frozen BK78002.out 2; have hfz18_3 := blk_frozen BK78002.out 3; have hfz18_4 := blk_frozen BK78002.out 4; have hfz18_5 := blk_frozen BK78002.out 5))
  refine bodyPost_ret (results_cell_row rfl _ _ gb78002 59 #[.int .i64 a0_0, .int .i64 t78004, .int .i64 t78005, .int .i64 t78006, .int .i64 t78007, .slice Ao16 t78008.length co16] (0, 0) _ rfl (by (with_reducible repeat (first | refine blk_drewN ?_ _ | refine blk_drew ?_ | refine blk_alloc ?_ _)); refine blk_put (cs := #[.int .i64 a0_0, .int .i64 t78004, .int .i64 t78005, .int .i64 t78006, .int .i64 t78007, .slice none 0 0]) ?_ 5 _ rfl; (with_reducible repeat (first | refine blk_drewN ?_ _ | refine blk_drew ?_ | refine blk_alloc ?_ _)); refine blk_put (cs := #[.int .i64 a0_0, .int .i64 t78004, .int .i64 t78005, .int .i64 t78006, .int .i64 0, .slice none 0 0]) ?_ 4 _ rfl; (with_reducible repeat (first | refine blk_drewN ?_ _ | refine blk_drew ?_ | refine blk_alloc ?_ _)); refine blk_put (cs := #[.int .i64 a0_0, .int .i64 t78004, .int .i64 t78005, .int .i64 0, .int .i64 0, .slice none 0 0]) ?_ 3 _ rfl; (with_reducible repeat (first | refine blk_drewN ?_ _ | refine blk_drew ?_ | refine blk_alloc ?_ _)); refine blk_put (cs := #[.int .i64 a0_0, .int .i64 t78004, .int .i64 0, .int .i64 0, .int .i64 0, .slice none 0 0]) ?_ 2 _ rfl; (with_reducible repeat (first | refine blk_drewN ?_ _ | refine blk_drew ?_ | refine blk_alloc ?_ _)); refine blk_put (cs := #[.int .i64 a0_0, .int .i64 0, .int .i64 0, .int .i64 0, .int .i64 0, .slice none 0 0]) ?_ 1 _ rfl; (with_reducible repeat (first | refine blk_drewN ?_ _ | refine blk_drew ?_ | refine blk_alloc ?_ _)); refine blk_put (cs := #[.int .i64 0, .int .i64 0, .int .i64 0, .int .i64 0, .int .i64 0, .slice none 0 0]) ?_ 0 _ rfl; (with_reducible repeat (first | refine blk_drewN ?_ _ | refine blk_drew ?_ | refine blk_alloc ?_ _)); refine blk_far ?_ NB78002_78003.out _; (with_reducible repeat (first | refine blk_drewN ?_ _ | refine blk_drew ?_ | refine blk_alloc ?_ _)); exact BK78002.out) Try.underlying59 rfl (by kernel_rfl)) rfl ?_
  exact ⟨_, by first | rfl | (simp [errW_none, errW_some] <;> rfl) | (simp [*, errW_none, errW_some] <;> rfl), by (with_reducible repeat (first | apply Kd.R_alloc | apply Kd.R_drewN | apply Kd.R_drew)); exact Kd.R_mono (Kd.R_far (p := ⟨gb78002, 5, none⟩) (Kd.R_far (p := ⟨gb78002, 4, none⟩) (Kd.R_far (p := ⟨gb78002, 3, none⟩) (Kd.R_far (p := ⟨gb78002, 2, none⟩) (Kd.R_far (p := ⟨gb78002, 1, none⟩) (Kd.R_far (p := ⟨gb78002, 0, none⟩) (Kd.R_far (p := ⟨gb78003, 5, none⟩) (Kd.R_types (Kd.R_types HO78010.out BK78003.out (by decide)) BK78002.out (by decide)) (fun _ hk => hk.1.2) (.slice Ao16 t78008.length co16)) (fun _ hk => hk.2) (.int .i64 a0_0)) (fun _ hk => hk.2) (.int .i64 t78004)) (fun _ hk => hk.2) (.int .i64 t78005)) (fun _ hk => hk.2) (.int .i64 t78006)) (fun _ hk => hk.2) (.int .i64 t78007)) (fun _ hk => hk.2) (.slice Ao16 t78008.length co16)) (fun _ hk => trivial), by repeat (first | (with_reducible first | exact HB.out | apply below_alloc | apply pw_below_drewN | apply below_drew1 | refine below_set ?_ GE78001.out | refine below_set ?_ GE78002.out | refine below_set ?_ GE78003.out) | exact HB.out)⟩

end Go.Proofs.Ytgfjccegehnjcaa.Q
