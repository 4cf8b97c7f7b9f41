/- A part of the proof that the statement FnExactEdgeOfSaid holds, under no condition of its own: The program's EdgeOf and the reference's return the same, and what is returned is held by nobody else: over lists of numbers alone. -/
import Derived.Test.YtfgeickfheogoaaProg
import Derived.Below
import Derived.Deep.Draws
import Derived.Deep.AppendLies
import Derived.Maps.AppendAt
import Derived.OwnWalk
import Derived.Laws.BytesArg
import Derived.Laws.MakeOwn
import Derived.Laws.OwnMore
import Derived.Deep.OwnRows
import Derived.Tactics
import Derived.Lib.ConvBytes
import Derived.Laws.Slices
import Derived.WalkKit
import Derived.KernelRfl
import Derived.RowKit3
import Derived.Deep.LoopGhost
import Derived.Deep.QuietTactic
import Derived.BigQuiet
import Derived.WideLaws
import Derived.Deep.DeepCutAuto
import Derived.Deep.CutBlock
import Derived.Deep.RegionHeld3
import Derived.Laws.Rows
import Derived.Lib.AppendStr
import Derived.ArgAppend
import Derived.Laws.IdiomCopy
import Derived.OrdersHeld
import Derived.Laws.BitsLemmas
import Derived.RowKit
import Derived.Test.YtfgeickfheogoaaWWords
import Derived.Test.YtfgeickfheogoaaWLast
import Derived.Test.YtfgeickfheogoaaWTab
import Derived.Test.YtfgeickfheogoaaWFour
import Derived.Test.YtfgeickfheogoaaWQPut
import Derived.Test.YtfgeickfheogoaaWApart
import Derived.Test.YtfgeickfheogoaaWArr
import Derived.Test.YtfgeickfheogoaaWZeros
import Derived.Test.YtfgeickfheogoaaWFoot
import Derived.Test.YtfgeickfheogoaaWKept
import Derived.Test.YtfgeickfheogoaaWShare
import Derived.Test.YtfgeickfheogoaaWN
import Derived.Test.YtfgeickfheogoaaWFootNe
import Derived.Test.YtfgeickfheogoaaWAt
import Derived.Test.YtfgeickfheogoaaWEqStruct
import Derived.Test.YtfgeickfheogoaaWRepsOne
import Derived.Test.YtfgeickfheogoaaWInv
import Derived.Test.YtfgeickfheogoaaWInvWords
import Derived.Test.YtfgeickfheogoaaWGuard
import Derived.Test.YtfgeickfheogoaaWNEv
import Derived.Test.YtfgeickfheogoaaWMore
import Derived.Shelf.Abstract
import Derived.Deep.WholeRow
import Derived.Deep.RegionWith
namespace Go.Proofs.Ytfgeickfheogoaa.Q
open Go.RowKit Go.Proofs.YtfgeickfheogoaaW.PrintWords Go.Proofs.YtfgeickfheogoaaW.PrintLast Go.Proofs.YtfgeickfheogoaaW.PrintMore
attribute [local go_sem] max2_int min2_int max_two min_two max_three min_three max_four min_four
set_option linter.unusedVariables false
set_option linter.unusedSimpArgs false
def errW : Option Int → Value
  | none => .nilIface
  | some c => .iface 0 (.int .i64 c)
theorem errW_none : errW none = .nilIface := rfl
theorem errW_some (c : Int) : errW (some c) = .iface 0 (.int .i64 c) := rfl
theorem info3 : (Try.prog.info? 3).map (fun i => (i.zero, i.size, i.bytes)) = some (some (.int .i64 0), 1, 8) := by kernel_rfl
theorem info4 : (Try.prog.info? 4).map (fun i => (i.zero, i.size, i.bytes)) = some (some (.bool false), 1, 1) := by kernel_rfl
theorem info5 : (Try.prog.info? 5).map (fun i => (i.zero, i.size, i.bytes)) = some (some (.int .u8 0), 1, 1) := by kernel_rfl
theorem info25 : (Try.prog.info? 25).map (fun i => (i.zero, i.size, i.bytes)) = some (some (.slice none 0 0), 1, 24) := by kernel_rfl
theorem info57 : (Try.prog.info? 57).map (fun i => (i.zero, i.size, i.bytes)) = some (some (.agg #[(.int .i64 0), (.int .i64 0), (.int .i64 0)]), 3, 24) := by kernel_rfl
theorem info59 : (Try.prog.info? 59).map (fun i => (i.zero, i.size, i.bytes)) = some (some (.agg #[(.int .i64 0), (.int .i64 0), (.int .i64 0)]), 3, 24) := by kernel_rfl
/-! #### struct type 7 -/
structure S7 where
  f0 : Int
  f1 : Int
  f2 : Bool
  f3 : Int
def z7 : S7 := ⟨(0 : Int), (0 : Int), false, (0 : Int)⟩
def k7 : Kd S7 := Kd.iso (Kd.pair (Kd.int .i64) (Kd.pair (Kd.int .i64) (Kd.pair Kd.bool (Kd.int .u8)))) (fun x : S7 => (x.f0, x.f1, x.f2, x.f3))
theorem k7_open {w : World} {x : S7} {cs : List Value} (h : k7.K w x cs) : cs = [.int .i64 x.f0, .int .i64 x.f1, .bool x.f2, .int .u8 x.f3] := by
  obtain ⟨_, _, rfl, rfl, ⟨_, _, rfl, rfl, ⟨_, _, rfl, rfl, rfl⟩⟩⟩ := h
  exact rfl
theorem k7_openM {w : World} {base : Nat} {ok : Nat → Prop} {x : S7} {cs : List Value} (h : k7.M w base ok x cs) : cs = [.int .i64 x.f0, .int .i64 x.f1, .bool x.f2, .int .u8 x.f3] := by
  obtain ⟨_, _, rfl, rfl, ⟨_, _, rfl, rfl, ⟨_, _, rfl, rfl, rfl⟩⟩⟩ := h
  exact rfl
theorem k7_mk (w : World) (x : S7)  : k7.K w x [.int .i64 x.f0, .int .i64 x.f1, .bool x.f2, .int .u8 x.f3] := ⟨[.int .i64 x.f0], [.int .i64 x.f1, .bool x.f2, .int .u8 x.f3], rfl, rfl, ⟨[.int .i64 x.f1], [.bool x.f2, .int .u8 x.f3], rfl, rfl, ⟨[.bool x.f2], [.int .u8 x.f3], rfl, rfl, rfl⟩⟩⟩
theorem k7_mkM (w : World) (base : Nat) (ok : Nat → Prop) (x : S7)  : k7.M w base ok x [.int .i64 x.f0, .int .i64 x.f1, .bool x.f2, .int .u8 x.f3] := ⟨[.int .i64 x.f0], [.int .i64 x.f1, .bool x.f2, .int .u8 x.f3], rfl, rfl, ⟨[.int .i64 x.f1], [.bool x.f2, .int .u8 x.f3], rfl, rfl, ⟨[.bool x.f2], [.int .u8 x.f3], rfl, rfl, rfl⟩⟩⟩
def rd_T7 (xs : List S7) (i : Int) : S7 := xs.getD i.toNat z7
theorem at_T7 {w : World} {A : Option Addr} {n : Nat} {xs : List S7} (h : Kd.C k7 w A n xs) (i : Int) (h0 : 0 ≤ i) (h1 : i < n) : ∃ ad , A = some ad ∧ w.cell? (ad.add (i.toNat * 4)) = some (.int .i64 (rd_T7 xs i).f0) ∧ w.cell? ⟨(ad.add (i.toNat * 4)).block, (ad.add (i.toNat * 4)).off + 1, none⟩ = some (.int .i64 (rd_T7 xs i).f1) ∧ w.cell? ⟨(ad.add (i.toNat * 4)).block, (ad.add (i.toNat * 4)).off + 2, none⟩ = some (.bool (rd_T7 xs i).f2) ∧ w.cell? ⟨(ad.add (i.toNat * 4)).block, (ad.add (i.toNat * 4)).off + 3, none⟩ = some (.int .u8 (rd_T7 xs i).f3) := by
  obtain ⟨ad, c, e, _, hK, hc0⟩ := Kd.C_get h z7 i h0 h1
  have hc : ∀ j u, c[j]? = some u → w.cell? (ad.add (i.toNat * 4 + j)) = some u := hc0
  obtain rfl := k7_open hK
  exact ⟨ad, e, hc 0 _ rfl, by rw [← add_field _ _ 1 (by omega)]; exact hc 1 _ rfl, by rw [← add_field _ _ 2 (by omega)]; exact hc 2 _ rfl, by rw [← add_field _ _ 3 (by omega)]; exact hc 3 _ rfl⟩

/-! #### struct type 8 -/
structure S8 where
  f0 : Int
  f1 : Int
  f2 : Bool
  f3 : Int
def z8 : S8 := ⟨(0 : Int), (0 : Int), false, (0 : Int)⟩
def k8 : Kd S8 := Kd.iso (Kd.pair (Kd.int .i64) (Kd.pair (Kd.int .i64) (Kd.pair Kd.bool (Kd.int .u8)))) (fun x : S8 => (x.f0, x.f1, x.f2, x.f3))
theorem k8_open {w : World} {x : S8} {cs : List Value} (h : k8.K w x cs) : cs = [.int .i64 x.f0, .int .i64 x.f1, .bool x.f2, .int .u8 x.f3] := by
  obtain ⟨_, _, rfl, rfl, ⟨_, _, rfl, rfl, ⟨_, _, rfl, rfl, rfl⟩⟩⟩ := h
  exact rfl
theorem k8_openM {w : World} {base : Nat} {ok : Nat → Prop} {x : S8} {cs : List Value} (h : k8.M w base ok x cs) : cs = [.int .i64 x.f0, .int .i64 x.f1, .bool x.f2, .int .u8 x.f3] := by
  obtain ⟨_, _, rfl, rfl, ⟨_, _, rfl, rfl, ⟨_, _, rfl, rfl, rfl⟩⟩⟩ := h
  exact rfl
theorem k8_mk (w : World) (x : S8)  : k8.K w x [.int .i64 x.f0, .int .i64 x.f1, .bool x.f2, .int .u8 x.f3] := ⟨[.int .i64 x.f0], [.int .i64 x.f1, .bool x.f2, .int .u8 x.f3], rfl, rfl, ⟨[.int .i64 x.f1], [.bool x.f2, .int .u8 x.f3], rfl, rfl, ⟨[.bool x.f2], [.int .u8 x.f3], rfl, rfl, rfl⟩⟩⟩
theorem k8_mkM (w : World) (base : Nat) (ok : Nat → Prop) (x : S8)  : k8.M w base ok x [.int .i64 x.f0, .int .i64 x.f1, .bool x.f2, .int .u8 x.f3] := ⟨[.int .i64 x.f0], [.int .i64 x.f1, .bool x.f2, .int .u8 x.f3], rfl, rfl, ⟨[.int .i64 x.f1], [.bool x.f2, .int .u8 x.f3], rfl, rfl, ⟨[.bool x.f2], [.int .u8 x.f3], rfl, rfl, rfl⟩⟩⟩
def rd_T8 (xs : List S8) (i : Int) : S8 := xs.getD i.toNat z8
theorem at_T8 {w : World} {A : Option Addr} {n : Nat} {xs : List S8} (h : Kd.C k8 w A n xs) (i : Int) (h0 : 0 ≤ i) (h1 : i < n) : ∃ ad , A = some ad ∧ w.cell? (ad.add (i.toNat * 4)) = some (.int .i64 (rd_T8 xs i).f0) ∧ w.cell? ⟨(ad.add (i.toNat * 4)).block, (ad.add (i.toNat * 4)).off + 1, none⟩ = some (.int .i64 (rd_T8 xs i).f1) ∧ w.cell? ⟨(ad.add (i.toNat * 4)).block, (ad.add (i.toNat * 4)).off + 2, none⟩ = some (.bool (rd_T8 xs i).f2) ∧ w.cell? ⟨(ad.add (i.toNat * 4)).block, (ad.add (i.toNat * 4)).off + 3, none⟩ = some (.int .u8 (rd_T8 xs i).f3) := by
  obtain ⟨ad, c, e, _, hK, hc0⟩ := Kd.C_get h z8 i h0 h1
  have hc : ∀ j u, c[j]? = some u → w.cell? (ad.add (i.toNat * 4 + j)) = some u := hc0
  obtain rfl := k8_open hK
  exact ⟨ad, e, hc 0 _ rfl, by rw [← add_field _ _ 1 (by omega)]; exact hc 1 _ rfl, by rw [← add_field _ _ 2 (by omega)]; exact hc 2 _ rfl, by rw [← add_field _ _ 3 (by omega)]; exact hc 3 _ rfl⟩

/-! #### struct type 13 -/
structure S13 where
  f0 : ByteArray
  f1 : Int
def z13 : S13 := ⟨(⟨#[]⟩ : ByteArray), (0 : Int)⟩
def k13 : Kd S13 := Kd.iso (Kd.pair Kd.string (Kd.int .u64)) (fun x : S13 => (x.f0, x.f1))
theorem k13_open {w : World} {x : S13} {cs : List Value} (h : k13.K w x cs) : cs = [.string x.f0, .int .u64 x.f1] := by
  obtain ⟨_, _, rfl, rfl, rfl⟩ := h
  exact rfl
theorem k13_openM {w : World} {base : Nat} {ok : Nat → Prop} {x : S13} {cs : List Value} (h : k13.M w base ok x cs) : cs = [.string x.f0, .int .u64 x.f1] := by
  obtain ⟨_, _, rfl, rfl, rfl⟩ := h
  exact rfl
theorem k13_mk (w : World) (x : S13)  : k13.K w x [.string x.f0, .int .u64 x.f1] := ⟨[.string x.f0], [.int .u64 x.f1], rfl, rfl, rfl⟩
theorem k13_mkM (w : World) (base : Nat) (ok : Nat → Prop) (x : S13)  : k13.M w base ok x [.string x.f0, .int .u64 x.f1] := ⟨[.string x.f0], [.int .u64 x.f1], rfl, rfl, rfl⟩
def rd_T13 (xs : List S13) (i : Int) : S13 := xs.getD i.toNat z13
theorem at_T13 {w : World} {A : Option Addr} {n : Nat} {xs : List S13} (h : Kd.C k13 w A n xs) (i : Int) (h0 : 0 ≤ i) (h1 : i < n) : ∃ ad , A = some ad ∧ w.cell? (ad.add (i.toNat * 2)) = some (.string (rd_T13 xs i).f0) ∧ w.cell? ⟨(ad.add (i.toNat * 2)).block, (ad.add (i.toNat * 2)).off + 1, none⟩ = some (.int .u64 (rd_T13 xs i).f1) := by
  obtain ⟨ad, c, e, _, hK, hc0⟩ := Kd.C_get h z13 i h0 h1
  have hc : ∀ j u, c[j]? = some u → w.cell? (ad.add (i.toNat * 2 + j)) = some u := hc0
  obtain rfl := k13_open hK
  exact ⟨ad, e, hc 0 _ rfl, by rw [← add_field _ _ 1 (by omega)]; exact hc 1 _ rfl⟩

/-! #### struct type 14 -/
structure S14 where
  f0 : ByteArray
  f1 : Int
def z14 : S14 := ⟨(⟨#[]⟩ : ByteArray), (0 : Int)⟩
def k14 : Kd S14 := Kd.iso (Kd.pair Kd.string (Kd.int .u64)) (fun x : S14 => (x.f0, x.f1))
theorem k14_open {w : World} {x : S14} {cs : List Value} (h : k14.K w x cs) : cs = [.string x.f0, .int .u64 x.f1] := by
  obtain ⟨_, _, rfl, rfl, rfl⟩ := h
  exact rfl
theorem k14_openM {w : World} {base : Nat} {ok : Nat → Prop} {x : S14} {cs : List Value} (h : k14.M w base ok x cs) : cs = [.string x.f0, .int .u64 x.f1] := by
  obtain ⟨_, _, rfl, rfl, rfl⟩ := h
  exact rfl
theorem k14_mk (w : World) (x : S14)  : k14.K w x [.string x.f0, .int .u64 x.f1] := ⟨[.string x.f0], [.int .u64 x.f1], rfl, rfl, rfl⟩
theorem k14_mkM (w : World) (base : Nat) (ok : Nat → Prop) (x : S14)  : k14.M w base ok x [.string x.f0, .int .u64 x.f1] := ⟨[.string x.f0], [.int .u64 x.f1], rfl, rfl, rfl⟩
def rd_T14 (xs : List S14) (i : Int) : S14 := xs.getD i.toNat z14
theorem at_T14 {w : World} {A : Option Addr} {n : Nat} {xs : List S14} (h : Kd.C k14 w A n xs) (i : Int) (h0 : 0 ≤ i) (h1 : i < n) : ∃ ad , A = some ad ∧ w.cell? (ad.add (i.toNat * 2)) = some (.string (rd_T14 xs i).f0) ∧ w.cell? ⟨(ad.add (i.toNat * 2)).block, (ad.add (i.toNat * 2)).off + 1, none⟩ = some (.int .u64 (rd_T14 xs i).f1) := by
  obtain ⟨ad, c, e, _, hK, hc0⟩ := Kd.C_get h z14 i h0 h1
  have hc : ∀ j u, c[j]? = some u → w.cell? (ad.add (i.toNat * 2 + j)) = some u := hc0
  obtain rfl := k14_open hK
  exact ⟨ad, e, hc 0 _ rfl, by rw [← add_field _ _ 1 (by omega)]; exact hc 1 _ rfl⟩

/-! #### struct type 59 -/
structure S59 where
  f0 : Int
  f1 : Int
  f2 : Int
def z59 : S59 := ⟨(0 : Int), (0 : Int), (0 : Int)⟩
def k59 : Kd S59 := Kd.iso (Kd.pair (Kd.int .i64) (Kd.pair (Kd.int .i64) (Kd.int .i64))) (fun x : S59 => (x.f0, x.f1, x.f2))
theorem k59_open {w : World} {x : S59} {cs : List Value} (h : k59.K w x cs) : cs = [.int .i64 x.f0, .int .i64 x.f1, .int .i64 x.f2] := by
  obtain ⟨_, _, rfl, rfl, ⟨_, _, rfl, rfl, rfl⟩⟩ := h
  exact rfl
theorem k59_openM {w : World} {base : Nat} {ok : Nat → Prop} {x : S59} {cs : List Value} (h : k59.M w base ok x cs) : cs = [.int .i64 x.f0, .int .i64 x.f1, .int .i64 x.f2] := by
  obtain ⟨_, _, rfl, rfl, ⟨_, _, rfl, rfl, rfl⟩⟩ := h
  exact rfl
theorem k59_mk (w : World) (x : S59)  : k59.K w x [.int .i64 x.f0, .int .i64 x.f1, .int .i64 x.f2] := ⟨[.int .i64 x.f0], [.int .i64 x.f1, .int .i64 x.f2], rfl, rfl, ⟨[.int .i64 x.f1], [.int .i64 x.f2], rfl, rfl, rfl⟩⟩
theorem k59_mkM (w : World) (base : Nat) (ok : Nat → Prop) (x : S59)  : k59.M w base ok x [.int .i64 x.f0, .int .i64 x.f1, .int .i64 x.f2] := ⟨[.int .i64 x.f0], [.int .i64 x.f1, .int .i64 x.f2], rfl, rfl, ⟨[.int .i64 x.f1], [.int .i64 x.f2], rfl, rfl, rfl⟩⟩
def rd_T59 (xs : List S59) (i : Int) : S59 := xs.getD i.toNat z59
theorem at_T59 {w : World} {A : Option Addr} {n : Nat} {xs : List S59} (h : Kd.C k59 w A n xs) (i : Int) (h0 : 0 ≤ i) (h1 : i < n) : ∃ ad , A = some ad ∧ w.cell? (ad.add (i.toNat * 3)) = some (.int .i64 (rd_T59 xs i).f0) ∧ w.cell? ⟨(ad.add (i.toNat * 3)).block, (ad.add (i.toNat * 3)).off + 1, none⟩ = some (.int .i64 (rd_T59 xs i).f1) ∧ w.cell? ⟨(ad.add (i.toNat * 3)).block, (ad.add (i.toNat * 3)).off + 2, none⟩ = some (.int .i64 (rd_T59 xs i).f2) := by
  obtain ⟨ad, c, e, _, hK, hc0⟩ := Kd.C_get h z59 i h0 h1
  have hc : ∀ j u, c[j]? = some u → w.cell? (ad.add (i.toNat * 3 + j)) = some u := hc0
  obtain rfl := k59_open hK
  exact ⟨ad, e, hc 0 _ rfl, by rw [← add_field _ _ 1 (by omega)]; exact hc 1 _ rfl, by rw [← add_field _ _ 2 (by omega)]; exact hc 2 _ rfl⟩

def rd_L10 (xs : List (List S59)) (i : Int) : (List S59) := xs.getD i.toNat ([] : List S59)
theorem at_L10 {w : World} {A : Option Addr} {n : Nat} {xs : List (List S59)} (h : Kd.C (Kd.slice 59 k59) w A n xs) (i : Int) (h0 : 0 ≤ i) (h1 : i < n) : ∃ ad A0 c0, A = some ad ∧ w.cell? (ad.add i.toNat) = some (.slice A0 (rd_L10 xs i).length c0) ∧ (rd_L10 xs i).length ≤ c0 ∧ k59.C w A0 (rd_L10 xs i).length (rd_L10 xs i) := by
  obtain ⟨ad, c, e, _, hK, hc0⟩ := Kd.C_get h ([] : List S59) i h0 h1
  have hc : ∀ j u, c[j]? = some u → w.cell? (ad.add (i.toNat * 1 + j)) = some u := hc0
  obtain ⟨A0, c0, rfl, l0, g0⟩ := hK
  exact ⟨ad, A0, c0, e, by have hq := hc 0 _ rfl; rwa [Nat.mul_one, Nat.add_zero] at hq, l0, g0⟩

/-! #### struct type 57 -/
structure S57 where
  f0 : Int
  f1 : Int
  f2 : Int
def z57 : S57 := ⟨(0 : Int), (0 : Int), (0 : Int)⟩
def k57 : Kd S57 := Kd.iso (Kd.pair (Kd.int .i64) (Kd.pair (Kd.int .i64) (Kd.int .i64))) (fun x : S57 => (x.f0, x.f1, x.f2))
theorem k57_open {w : World} {x : S57} {cs : List Value} (h : k57.K w x cs) : cs = [.int .i64 x.f0, .int .i64 x.f1, .int .i64 x.f2] := by
  obtain ⟨_, _, rfl, rfl, ⟨_, _, rfl, rfl, rfl⟩⟩ := h
  exact rfl
theorem k57_openM {w : World} {base : Nat} {ok : Nat → Prop} {x : S57} {cs : List Value} (h : k57.M w base ok x cs) : cs = [.int .i64 x.f0, .int .i64 x.f1, .int .i64 x.f2] := by
  obtain ⟨_, _, rfl, rfl, ⟨_, _, rfl, rfl, rfl⟩⟩ := h
  exact rfl
theorem k57_mk (w : World) (x : S57)  : k57.K w x [.int .i64 x.f0, .int .i64 x.f1, .int .i64 x.f2] := ⟨[.int .i64 x.f0], [.int .i64 x.f1, .int .i64 x.f2], rfl, rfl, ⟨[.int .i64 x.f1], [.int .i64 x.f2], rfl, rfl, rfl⟩⟩
theorem k57_mkM (w : World) (base : Nat) (ok : Nat → Prop) (x : S57)  : k57.M w base ok x [.int .i64 x.f0, .int .i64 x.f1, .int .i64 x.f2] := ⟨[.int .i64 x.f0], [.int .i64 x.f1, .int .i64 x.f2], rfl, rfl, ⟨[.int .i64 x.f1], [.int .i64 x.f2], rfl, rfl, rfl⟩⟩
def rd_T57 (xs : List S57) (i : Int) : S57 := xs.getD i.toNat z57
theorem at_T57 {w : World} {A : Option Addr} {n : Nat} {xs : List S57} (h : Kd.C k57 w A n xs) (i : Int) (h0 : 0 ≤ i) (h1 : i < n) : ∃ ad , A = some ad ∧ w.cell? (ad.add (i.toNat * 3)) = some (.int .i64 (rd_T57 xs i).f0) ∧ w.cell? ⟨(ad.add (i.toNat * 3)).block, (ad.add (i.toNat * 3)).off + 1, none⟩ = some (.int .i64 (rd_T57 xs i).f1) ∧ w.cell? ⟨(ad.add (i.toNat * 3)).block, (ad.add (i.toNat * 3)).off + 2, none⟩ = some (.int .i64 (rd_T57 xs i).f2) := by
  obtain ⟨ad, c, e, _, hK, hc0⟩ := Kd.C_get h z57 i h0 h1
  have hc : ∀ j u, c[j]? = some u → w.cell? (ad.add (i.toNat * 3 + j)) = some u := hc0
  obtain rfl := k57_open hK
  exact ⟨ad, e, hc 0 _ rfl, by rw [← add_field _ _ 1 (by omega)]; exact hc 1 _ rfl, by rw [← add_field _ _ 2 (by omega)]; exact hc 2 _ rfl⟩

def rd_L12 (xs : List (List S57)) (i : Int) : (List S57) := xs.getD i.toNat ([] : List S57)
theorem at_L12 {w : World} {A : Option Addr} {n : Nat} {xs : List (List S57)} (h : Kd.C (Kd.slice 57 k57) w A n xs) (i : Int) (h0 : 0 ≤ i) (h1 : i < n) : ∃ ad A0 c0, A = some ad ∧ w.cell? (ad.add i.toNat) = some (.slice A0 (rd_L12 xs i).length c0) ∧ (rd_L12 xs i).length ≤ c0 ∧ k57.C w A0 (rd_L12 xs i).length (rd_L12 xs i) := by
  obtain ⟨ad, c, e, _, hK, hc0⟩ := Kd.C_get h ([] : List S57) i h0 h1
  have hc : ∀ j u, c[j]? = some u → w.cell? (ad.add (i.toNat * 1 + j)) = some u := hc0
  obtain ⟨A0, c0, rfl, l0, g0⟩ := hK
  exact ⟨ad, A0, c0, e, by have hq := hc 0 _ rfl; rwa [Nat.mul_one, Nat.add_zero] at hq, l0, g0⟩

/-! #### struct type 32 -/
structure S32 where
  f0 : Int
  f1 : Int
  f2 : Int
  f3 : Int
def z32 : S32 := ⟨(0 : Int), (0 : Int), (0 : Int), (0 : Int)⟩
def k32 : Kd S32 := Kd.iso (Kd.pair (Kd.int .i64) (Kd.pair (Kd.int .i64) (Kd.pair (Kd.int .i64) (Kd.int .i64)))) (fun x : S32 => (x.f0, x.f1, x.f2, x.f3))
theorem k32_open {w : World} {x : S32} {cs : List Value} (h : k32.K w x cs) : cs = [.int .i64 x.f0, .int .i64 x.f1, .int .i64 x.f2, .int .i64 x.f3] := by
  obtain ⟨_, _, rfl, rfl, ⟨_, _, rfl, rfl, ⟨_, _, rfl, rfl, rfl⟩⟩⟩ := h
  exact rfl
theorem k32_openM {w : World} {base : Nat} {ok : Nat → Prop} {x : S32} {cs : List Value} (h : k32.M w base ok x cs) : cs = [.int .i64 x.f0, .int .i64 x.f1, .int .i64 x.f2, .int .i64 x.f3] := by
  obtain ⟨_, _, rfl, rfl, ⟨_, _, rfl, rfl, ⟨_, _, rfl, rfl, rfl⟩⟩⟩ := h
  exact rfl
theorem k32_mk (w : World) (x : S32)  : k32.K w x [.int .i64 x.f0, .int .i64 x.f1, .int .i64 x.f2, .int .i64 x.f3] := ⟨[.int .i64 x.f0], [.int .i64 x.f1, .int .i64 x.f2, .int .i64 x.f3], rfl, rfl, ⟨[.int .i64 x.f1], [.int .i64 x.f2, .int .i64 x.f3], rfl, rfl, ⟨[.int .i64 x.f2], [.int .i64 x.f3], rfl, rfl, rfl⟩⟩⟩
theorem k32_mkM (w : World) (base : Nat) (ok : Nat → Prop) (x : S32)  : k32.M w base ok x [.int .i64 x.f0, .int .i64 x.f1, .int .i64 x.f2, .int .i64 x.f3] := ⟨[.int .i64 x.f0], [.int .i64 x.f1, .int .i64 x.f2, .int .i64 x.f3], rfl, rfl, ⟨[.int .i64 x.f1], [.int .i64 x.f2, .int .i64 x.f3], rfl, rfl, ⟨[.int .i64 x.f2], [.int .i64 x.f3], rfl, rfl, rfl⟩⟩⟩
def rd_T32 (xs : List S32) (i : Int) : S32 := xs.getD i.toNat z32
theorem at_T32 {w : World} {A : Option Addr} {n : Nat} {xs : List S32} (h : Kd.C k32 w A n xs) (i : Int) (h0 : 0 ≤ i) (h1 : i < n) : ∃ ad , A = some ad ∧ w.cell? (ad.add (i.toNat * 4)) = some (.int .i64 (rd_T32 xs i).f0) ∧ w.cell? ⟨(ad.add (i.toNat * 4)).block, (ad.add (i.toNat * 4)).off + 1, none⟩ = some (.int .i64 (rd_T32 xs i).f1) ∧ w.cell? ⟨(ad.add (i.toNat * 4)).block, (ad.add (i.toNat * 4)).off + 2, none⟩ = some (.int .i64 (rd_T32 xs i).f2) ∧ w.cell? ⟨(ad.add (i.toNat * 4)).block, (ad.add (i.toNat * 4)).off + 3, none⟩ = some (.int .i64 (rd_T32 xs i).f3) := by
  obtain ⟨ad, c, e, _, hK, hc0⟩ := Kd.C_get h z32 i h0 h1
  have hc : ∀ j u, c[j]? = some u → w.cell? (ad.add (i.toNat * 4 + j)) = some u := hc0
  obtain rfl := k32_open hK
  exact ⟨ad, e, hc 0 _ rfl, by rw [← add_field _ _ 1 (by omega)]; exact hc 1 _ rfl, by rw [← add_field _ _ 2 (by omega)]; exact hc 2 _ rfl, by rw [← add_field _ _ 3 (by omega)]; exact hc 3 _ rfl⟩

/-! #### struct type 33 -/
structure S33 where
  f0 : Int
  f1 : Int
  f2 : Int
  f3 : Int
def z33 : S33 := ⟨(0 : Int), (0 : Int), (0 : Int), (0 : Int)⟩
def k33 : Kd S33 := Kd.iso (Kd.pair (Kd.int .i64) (Kd.pair (Kd.int .i64) (Kd.pair (Kd.int .i64) (Kd.int .i64)))) (fun x : S33 => (x.f0, x.f1, x.f2, x.f3))
theorem k33_open {w : World} {x : S33} {cs : List Value} (h : k33.K w x cs) : cs = [.int .i64 x.f0, .int .i64 x.f1, .int .i64 x.f2, .int .i64 x.f3] := by
  obtain ⟨_, _, rfl, rfl, ⟨_, _, rfl, rfl, ⟨_, _, rfl, rfl, rfl⟩⟩⟩ := h
  exact rfl
theorem k33_openM {w : World} {base : Nat} {ok : Nat → Prop} {x : S33} {cs : List Value} (h : k33.M w base ok x cs) : cs = [.int .i64 x.f0, .int .i64 x.f1, .int .i64 x.f2, .int .i64 x.f3] := by
  obtain ⟨_, _, rfl, rfl, ⟨_, _, rfl, rfl, ⟨_, _, rfl, rfl, rfl⟩⟩⟩ := h
  exact rfl
theorem k33_mk (w : World) (x : S33)  : k33.K w x [.int .i64 x.f0, .int .i64 x.f1, .int .i64 x.f2, .int .i64 x.f3] := ⟨[.int .i64 x.f0], [.int .i64 x.f1, .int .i64 x.f2, .int .i64 x.f3], rfl, rfl, ⟨[.int .i64 x.f1], [.int .i64 x.f2, .int .i64 x.f3], rfl, rfl, ⟨[.int .i64 x.f2], [.int .i64 x.f3], rfl, rfl, rfl⟩⟩⟩
theorem k33_mkM (w : World) (base : Nat) (ok : Nat → Prop) (x : S33)  : k33.M w base ok x [.int .i64 x.f0, .int .i64 x.f1, .int .i64 x.f2, .int .i64 x.f3] := ⟨[.int .i64 x.f0], [.int .i64 x.f1, .int .i64 x.f2, .int .i64 x.f3], rfl, rfl, ⟨[.int .i64 x.f1], [.int .i64 x.f2, .int .i64 x.f3], rfl, rfl, ⟨[.int .i64 x.f2], [.int .i64 x.f3], rfl, rfl, rfl⟩⟩⟩
def rd_T33 (xs : List S33) (i : Int) : S33 := xs.getD i.toNat z33
theorem at_T33 {w : World} {A : Option Addr} {n : Nat} {xs : List S33} (h : Kd.C k33 w A n xs) (i : Int) (h0 : 0 ≤ i) (h1 : i < n) : ∃ ad , A = some ad ∧ w.cell? (ad.add (i.toNat * 4)) = some (.int .i64 (rd_T33 xs i).f0) ∧ w.cell? ⟨(ad.add (i.toNat * 4)).block, (ad.add (i.toNat * 4)).off + 1, none⟩ = some (.int .i64 (rd_T33 xs i).f1) ∧ w.cell? ⟨(ad.add (i.toNat * 4)).block, (ad.add (i.toNat * 4)).off + 2, none⟩ = some (.int .i64 (rd_T33 xs i).f2) ∧ w.cell? ⟨(ad.add (i.toNat * 4)).block, (ad.add (i.toNat * 4)).off + 3, none⟩ = some (.int .i64 (rd_T33 xs i).f3) := by
  obtain ⟨ad, c, e, _, hK, hc0⟩ := Kd.C_get h z33 i h0 h1
  have hc : ∀ j u, c[j]? = some u → w.cell? (ad.add (i.toNat * 4 + j)) = some u := hc0
  obtain rfl := k33_open hK
  exact ⟨ad, e, hc 0 _ rfl, by rw [← add_field _ _ 1 (by omega)]; exact hc 1 _ rfl, by rw [← add_field _ _ 2 (by omega)]; exact hc 2 _ rfl, by rw [← add_field _ _ 3 (by omega)]; exact hc 3 _ rfl⟩

/-! #### struct type 36 -/
structure S36 where
  f0 : Int
  f1 : Int
  f2 : Int
  f3 : Int
def z36 : S36 := ⟨(0 : Int), (0 : Int), (0 : Int), (0 : Int)⟩
def k36 : Kd S36 := Kd.iso (Kd.pair (Kd.int .i64) (Kd.pair (Kd.int .i64) (Kd.pair (Kd.int .i64) (Kd.int .i64)))) (fun x : S36 => (x.f0, x.f1, x.f2, x.f3))
theorem k36_open {w : World} {x : S36} {cs : List Value} (h : k36.K w x cs) : cs = [.int .i64 x.f0, .int .i64 x.f1, .int .i64 x.f2, .int .i64 x.f3] := by
  obtain ⟨_, _, rfl, rfl, ⟨_, _, rfl, rfl, ⟨_, _, rfl, rfl, rfl⟩⟩⟩ := h
  exact rfl
theorem k36_openM {w : World} {base : Nat} {ok : Nat → Prop} {x : S36} {cs : List Value} (h : k36.M w base ok x cs) : cs = [.int .i64 x.f0, .int .i64 x.f1, .int .i64 x.f2, .int .i64 x.f3] := by
  obtain ⟨_, _, rfl, rfl, ⟨_, _, rfl, rfl, ⟨_, _, rfl, rfl, rfl⟩⟩⟩ := h
  exact rfl
theorem k36_mk (w : World) (x : S36)  : k36.K w x [.int .i64 x.f0, .int .i64 x.f1, .int .i64 x.f2, .int .i64 x.f3] := ⟨[.int .i64 x.f0], [.int .i64 x.f1, .int .i64 x.f2, .int .i64 x.f3], rfl, rfl, ⟨[.int .i64 x.f1], [.int .i64 x.f2, .int .i64 x.f3], rfl, rfl, ⟨[.int .i64 x.f2], [.int .i64 x.f3], rfl, rfl, rfl⟩⟩⟩
theorem k36_mkM (w : World) (base : Nat) (ok : Nat → Prop) (x : S36)  : k36.M w base ok x [.int .i64 x.f0, .int .i64 x.f1, .int .i64 x.f2, .int .i64 x.f3] := ⟨[.int .i64 x.f0], [.int .i64 x.f1, .int .i64 x.f2, .int .i64 x.f3], rfl, rfl, ⟨[.int .i64 x.f1], [.int .i64 x.f2, .int .i64 x.f3], rfl, rfl, ⟨[.int .i64 x.f2], [.int .i64 x.f3], rfl, rfl, rfl⟩⟩⟩
def rd_T36 (xs : List S36) (i : Int) : S36 := xs.getD i.toNat z36
theorem at_T36 {w : World} {A : Option Addr} {n : Nat} {xs : List S36} (h : Kd.C k36 w A n xs) (i : Int) (h0 : 0 ≤ i) (h1 : i < n) : ∃ ad , A = some ad ∧ w.cell? (ad.add (i.toNat * 4)) = some (.int .i64 (rd_T36 xs i).f0) ∧ w.cell? ⟨(ad.add (i.toNat * 4)).block, (ad.add (i.toNat * 4)).off + 1, none⟩ = some (.int .i64 (rd_T36 xs i).f1) ∧ w.cell? ⟨(ad.add (i.toNat * 4)).block, (ad.add (i.toNat * 4)).off + 2, none⟩ = some (.int .i64 (rd_T36 xs i).f2) ∧ w.cell? ⟨(ad.add (i.toNat * 4)).block, (ad.add (i.toNat * 4)).off + 3, none⟩ = some (.int .i64 (rd_T36 xs i).f3) := by
  obtain ⟨ad, c, e, _, hK, hc0⟩ := Kd.C_get h z36 i h0 h1
  have hc : ∀ j u, c[j]? = some u → w.cell? (ad.add (i.toNat * 4 + j)) = some u := hc0
  obtain rfl := k36_open hK
  exact ⟨ad, e, hc 0 _ rfl, by rw [← add_field _ _ 1 (by omega)]; exact hc 1 _ rfl, by rw [← add_field _ _ 2 (by omega)]; exact hc 2 _ rfl, by rw [← add_field _ _ 3 (by omega)]; exact hc 3 _ rfl⟩

def rd_L16 (xs : List (List Int)) (i : Int) : (List Int) := xs.getD i.toNat ([] : List Int)
theorem at_L16 {w : World} {A : Option Addr} {n : Nat} {xs : List (List Int)} (h : Kd.C (Kd.slice 5 (Kd.int .u8)) w A n xs) (i : Int) (h0 : 0 ≤ i) (h1 : i < n) : ∃ ad A0 c0, A = some ad ∧ w.cell? (ad.add i.toNat) = some (.slice A0 (rd_L16 xs i).length c0) ∧ (rd_L16 xs i).length ≤ c0 ∧ (Kd.int .u8).C w A0 (rd_L16 xs i).length (rd_L16 xs i) := by
  obtain ⟨ad, c, e, _, hK, hc0⟩ := Kd.C_get h ([] : List Int) i h0 h1
  have hc : ∀ j u, c[j]? = some u → w.cell? (ad.add (i.toNat * 1 + j)) = some u := hc0
  obtain ⟨A0, c0, rfl, l0, g0⟩ := hK
  exact ⟨ad, A0, c0, e, by have hq := hc 0 _ rfl; rwa [Nat.mul_one, Nat.add_zero] at hq, l0, g0⟩

def rd_L17 (xs : List (List (List S57))) (i : Int) : (List (List S57)) := xs.getD i.toNat ([] : List (List S57))
theorem at_L17 {w : World} {A : Option Addr} {n : Nat} {xs : List (List (List S57))} (h : Kd.C (Kd.slice 25 (Kd.slice 57 k57)) w A n xs) (i : Int) (h0 : 0 ≤ i) (h1 : i < n) : ∃ ad A0 c0, A = some ad ∧ w.cell? (ad.add i.toNat) = some (.slice A0 (rd_L17 xs i).length c0) ∧ (rd_L17 xs i).length ≤ c0 ∧ (Kd.slice 57 k57).C w A0 (rd_L17 xs i).length (rd_L17 xs i) := by
  obtain ⟨ad, c, e, _, hK, hc0⟩ := Kd.C_get h ([] : List (List S57)) i h0 h1
  have hc : ∀ j u, c[j]? = some u → w.cell? (ad.add (i.toNat * 1 + j)) = some u := hc0
  obtain ⟨A0, c0, rfl, l0, g0⟩ := hK
  exact ⟨ad, A0, c0, e, by have hq := hc 0 _ rfl; rwa [Nat.mul_one, Nat.add_zero] at hq, l0, g0⟩

/-! #### struct type 56 -/
structure S56 where
  f0 : Int
  f1 : Int
  f2 : Int
def z56 : S56 := ⟨(0 : Int), (0 : Int), (0 : Int)⟩
def k56 : Kd S56 := Kd.iso (Kd.pair (Kd.int .i64) (Kd.pair (Kd.int .i64) (Kd.int .i64))) (fun x : S56 => (x.f0, x.f1, x.f2))
theorem k56_open {w : World} {x : S56} {cs : List Value} (h : k56.K w x cs) : cs = [.int .i64 x.f0, .int .i64 x.f1, .int .i64 x.f2] := by
  obtain ⟨_, _, rfl, rfl, ⟨_, _, rfl, rfl, rfl⟩⟩ := h
  exact rfl
theorem k56_openM {w : World} {base : Nat} {ok : Nat → Prop} {x : S56} {cs : List Value} (h : k56.M w base ok x cs) : cs = [.int .i64 x.f0, .int .i64 x.f1, .int .i64 x.f2] := by
  obtain ⟨_, _, rfl, rfl, ⟨_, _, rfl, rfl, rfl⟩⟩ := h
  exact rfl
theorem k56_mk (w : World) (x : S56)  : k56.K w x [.int .i64 x.f0, .int .i64 x.f1, .int .i64 x.f2] := ⟨[.int .i64 x.f0], [.int .i64 x.f1, .int .i64 x.f2], rfl, rfl, ⟨[.int .i64 x.f1], [.int .i64 x.f2], rfl, rfl, rfl⟩⟩
theorem k56_mkM (w : World) (base : Nat) (ok : Nat → Prop) (x : S56)  : k56.M w base ok x [.int .i64 x.f0, .int .i64 x.f1, .int .i64 x.f2] := ⟨[.int .i64 x.f0], [.int .i64 x.f1, .int .i64 x.f2], rfl, rfl, ⟨[.int .i64 x.f1], [.int .i64 x.f2], rfl, rfl, rfl⟩⟩
def rd_T56 (xs : List S56) (i : Int) : S56 := xs.getD i.toNat z56
theorem at_T56 {w : World} {A : Option Addr} {n : Nat} {xs : List S56} (h : Kd.C k56 w A n xs) (i : Int) (h0 : 0 ≤ i) (h1 : i < n) : ∃ ad , A = some ad ∧ w.cell? (ad.add (i.toNat * 3)) = some (.int .i64 (rd_T56 xs i).f0) ∧ w.cell? ⟨(ad.add (i.toNat * 3)).block, (ad.add (i.toNat * 3)).off + 1, none⟩ = some (.int .i64 (rd_T56 xs i).f1) ∧ w.cell? ⟨(ad.add (i.toNat * 3)).block, (ad.add (i.toNat * 3)).off + 2, none⟩ = some (.int .i64 (rd_T56 xs i).f2) := by
  obtain ⟨ad, c, e, _, hK, hc0⟩ := Kd.C_get h z56 i h0 h1
  have hc : ∀ j u, c[j]? = some u → w.cell? (ad.add (i.toNat * 3 + j)) = some u := hc0
  obtain rfl := k56_open hK
  exact ⟨ad, e, hc 0 _ rfl, by rw [← add_field _ _ 1 (by omega)]; exact hc 1 _ rfl, by rw [← add_field _ _ 2 (by omega)]; exact hc 2 _ rfl⟩

def rd_L19 (xs : List (List Bool)) (i : Int) : (List Bool) := xs.getD i.toNat ([] : List Bool)
theorem at_L19 {w : World} {A : Option Addr} {n : Nat} {xs : List (List Bool)} (h : Kd.C (Kd.slice 4 Kd.bool) w A n xs) (i : Int) (h0 : 0 ≤ i) (h1 : i < n) : ∃ ad A0 c0, A = some ad ∧ w.cell? (ad.add i.toNat) = some (.slice A0 (rd_L19 xs i).length c0) ∧ (rd_L19 xs i).length ≤ c0 ∧ Kd.bool.C w A0 (rd_L19 xs i).length (rd_L19 xs i) := by
  obtain ⟨ad, c, e, _, hK, hc0⟩ := Kd.C_get h ([] : List Bool) i h0 h1
  have hc : ∀ j u, c[j]? = some u → w.cell? (ad.add (i.toNat * 1 + j)) = some u := hc0
  obtain ⟨A0, c0, rfl, l0, g0⟩ := hK
  exact ⟨ad, A0, c0, e, by have hq := hc 0 _ rfl; rwa [Nat.mul_one, Nat.add_zero] at hq, l0, g0⟩

def rd_L20 (xs : List (List Int)) (i : Int) : (List Int) := xs.getD i.toNat ([] : List Int)
theorem at_L20 {w : World} {A : Option Addr} {n : Nat} {xs : List (List Int)} (h : Kd.C (Kd.slice 3 (Kd.int .i64)) w A n xs) (i : Int) (h0 : 0 ≤ i) (h1 : i < n) : ∃ ad A0 c0, A = some ad ∧ w.cell? (ad.add i.toNat) = some (.slice A0 (rd_L20 xs i).length c0) ∧ (rd_L20 xs i).length ≤ c0 ∧ (Kd.int .i64).C w A0 (rd_L20 xs i).length (rd_L20 xs i) := by
  obtain ⟨ad, c, e, _, hK, hc0⟩ := Kd.C_get h ([] : List Int) i h0 h1
  have hc : ∀ j u, c[j]? = some u → w.cell? (ad.add (i.toNat * 1 + j)) = some u := hc0
  obtain ⟨A0, c0, rfl, l0, g0⟩ := hK
  exact ⟨ad, A0, c0, e, by have hq := hc 0 _ rfl; rwa [Nat.mul_one, Nat.add_zero] at hq, l0, g0⟩

/-! #### struct type 71 -/
structure S71 where
  f0 : Int
  f1 : Int
  f2 : Int
  f3 : (List Int)
def z71 : S71 := ⟨(0 : Int), (0 : Int), (0 : Int), ([] : List Int)⟩
def k71 : Kd S71 := Kd.iso (Kd.pair (Kd.int .i64) (Kd.pair (Kd.int .i64) (Kd.pair (Kd.int .i64) (Kd.slice 3 (Kd.int .i64))))) (fun x : S71 => (x.f0, x.f1, x.f2, x.f3))
theorem k71_open {w : World} {x : S71} {cs : List Value} (h : k71.K w x cs) : ∃ A3 c3, cs = [.int .i64 x.f0, .int .i64 x.f1, .int .i64 x.f2, .slice A3 x.f3.length c3] ∧ x.f3.length ≤ c3 ∧ (Kd.int .i64).C w A3 x.f3.length x.f3 := by
  obtain ⟨_, _, rfl, rfl, ⟨_, _, rfl, rfl, ⟨_, _, rfl, rfl, ⟨A3, c3, rfl, l3, g3⟩⟩⟩⟩ := h
  exact ⟨A3, c3, rfl, l3, g3⟩
theorem k71_openM {w : World} {base : Nat} {ok : Nat → Prop} {x : S71} {cs : List Value} (h : k71.M w base ok x cs) : ∃ v3, cs = [.int .i64 x.f0, .int .i64 x.f1, .int .i64 x.f2, v3] ∧ (Kd.int .i64).R 3 w base ok v3 x.f3 := by
  obtain ⟨_, _, rfl, rfl, ⟨_, _, rfl, rfl, ⟨_, _, rfl, rfl, ⟨v3, rfl, g3⟩⟩⟩⟩ := h
  exact ⟨v3, rfl, g3⟩
theorem k71_mk (w : World) (x : S71) {A3 : Option Addr} {c3 : Nat} (l3 : x.f3.length ≤ c3) (g3 : (Kd.int .i64).C w A3 x.f3.length x.f3) : k71.K w x [.int .i64 x.f0, .int .i64 x.f1, .int .i64 x.f2, .slice A3 x.f3.length c3] := ⟨[.int .i64 x.f0], [.int .i64 x.f1, .int .i64 x.f2, .slice A3 x.f3.length c3], rfl, rfl, ⟨[.int .i64 x.f1], [.int .i64 x.f2, .slice A3 x.f3.length c3], rfl, rfl, ⟨[.int .i64 x.f2], [.slice A3 x.f3.length c3], rfl, rfl, ⟨A3, c3, rfl, l3, g3⟩⟩⟩⟩
theorem k71_mkM (w : World) (base : Nat) (ok : Nat → Prop) (x : S71) {v3 : Value} (g3 : (Kd.int .i64).R 3 w base ok v3 x.f3) : k71.M w base ok x [.int .i64 x.f0, .int .i64 x.f1, .int .i64 x.f2, v3] := ⟨[.int .i64 x.f0], [.int .i64 x.f1, .int .i64 x.f2, v3], rfl, rfl, ⟨[.int .i64 x.f1], [.int .i64 x.f2, v3], rfl, rfl, ⟨[.int .i64 x.f2], [v3], rfl, rfl, ⟨v3, rfl, g3⟩⟩⟩⟩
def rd_T71 (xs : List S71) (i : Int) : S71 := xs.getD i.toNat z71
theorem at_T71 {w : World} {A : Option Addr} {n : Nat} {xs : List S71} (h : Kd.C k71 w A n xs) (i : Int) (h0 : 0 ≤ i) (h1 : i < n) : ∃ ad A3 c3, A = some ad ∧ w.cell? (ad.add (i.toNat * 4)) = some (.int .i64 (rd_T71 xs i).f0) ∧ w.cell? ⟨(ad.add (i.toNat * 4)).block, (ad.add (i.toNat * 4)).off + 1, none⟩ = some (.int .i64 (rd_T71 xs i).f1) ∧ w.cell? ⟨(ad.add (i.toNat * 4)).block, (ad.add (i.toNat * 4)).off + 2, none⟩ = some (.int .i64 (rd_T71 xs i).f2) ∧ w.cell? ⟨(ad.add (i.toNat * 4)).block, (ad.add (i.toNat * 4)).off + 3, none⟩ = some (.slice A3 (rd_T71 xs i).f3.length c3) ∧ (rd_T71 xs i).f3.length ≤ c3 ∧ (Kd.int .i64).C w A3 (rd_T71 xs i).f3.length (rd_T71 xs i).f3 := by
  obtain ⟨ad, c, e, _, hK, hc0⟩ := Kd.C_get h z71 i h0 h1
  have hc : ∀ j u, c[j]? = some u → w.cell? (ad.add (i.toNat * 4 + j)) = some u := hc0
  obtain ⟨A3, c3, rfl, l3, g3⟩ := k71_open hK
  exact ⟨ad, A3, c3, e, hc 0 _ rfl, by rw [← add_field _ _ 1 (by omega)]; exact hc 1 _ rfl, by rw [← add_field _ _ 2 (by omega)]; exact hc 2 _ rfl, by rw [← add_field _ _ 3 (by omega)]; exact hc 3 _ rfl, l3, g3⟩

/-! #### struct type 72 -/
structure S72 where
  f0 : Int
  f1 : Int
  f2 : Int
  f3 : (List Int)
def z72 : S72 := ⟨(0 : Int), (0 : Int), (0 : Int), ([] : List Int)⟩
def k72 : Kd S72 := Kd.iso (Kd.pair (Kd.int .i64) (Kd.pair (Kd.int .i64) (Kd.pair (Kd.int .i64) (Kd.slice 3 (Kd.int .i64))))) (fun x : S72 => (x.f0, x.f1, x.f2, x.f3))
theorem k72_open {w : World} {x : S72} {cs : List Value} (h : k72.K w x cs) : ∃ A3 c3, cs = [.int .i64 x.f0, .int .i64 x.f1, .int .i64 x.f2, .slice A3 x.f3.length c3] ∧ x.f3.length ≤ c3 ∧ (Kd.int .i64).C w A3 x.f3.length x.f3 := by
  obtain ⟨_, _, rfl, rfl, ⟨_, _, rfl, rfl, ⟨_, _, rfl, rfl, ⟨A3, c3, rfl, l3, g3⟩⟩⟩⟩ := h
  exact ⟨A3, c3, rfl, l3, g3⟩
theorem k72_openM {w : World} {base : Nat} {ok : Nat → Prop} {x : S72} {cs : List Value} (h : k72.M w base ok x cs) : ∃ v3, cs = [.int .i64 x.f0, .int .i64 x.f1, .int .i64 x.f2, v3] ∧ (Kd.int .i64).R 3 w base ok v3 x.f3 := by
  obtain ⟨_, _, rfl, rfl, ⟨_, _, rfl, rfl, ⟨_, _, rfl, rfl, ⟨v3, rfl, g3⟩⟩⟩⟩ := h
  exact ⟨v3, rfl, g3⟩
theorem k72_mk (w : World) (x : S72) {A3 : Option Addr} {c3 : Nat} (l3 : x.f3.length ≤ c3) (g3 : (Kd.int .i64).C w A3 x.f3.length x.f3) : k72.K w x [.int .i64 x.f0, .int .i64 x.f1, .int .i64 x.f2, .slice A3 x.f3.length c3] := ⟨[.int .i64 x.f0], [.int .i64 x.f1, .int .i64 x.f2, .slice A3 x.f3.length c3], rfl, rfl, ⟨[.int .i64 x.f1], [.int .i64 x.f2, .slice A3 x.f3.length c3], rfl, rfl, ⟨[.int .i64 x.f2], [.slice A3 x.f3.length c3], rfl, rfl, ⟨A3, c3, rfl, l3, g3⟩⟩⟩⟩
theorem k72_mkM (w : World) (base : Nat) (ok : Nat → Prop) (x : S72) {v3 : Value} (g3 : (Kd.int .i64).R 3 w base ok v3 x.f3) : k72.M w base ok x [.int .i64 x.f0, .int .i64 x.f1, .int .i64 x.f2, v3] := ⟨[.int .i64 x.f0], [.int .i64 x.f1, .int .i64 x.f2, v3], rfl, rfl, ⟨[.int .i64 x.f1], [.int .i64 x.f2, v3], rfl, rfl, ⟨[.int .i64 x.f2], [v3], rfl, rfl, ⟨v3, rfl, g3⟩⟩⟩⟩
def rd_T72 (xs : List S72) (i : Int) : S72 := xs.getD i.toNat z72
theorem at_T72 {w : World} {A : Option Addr} {n : Nat} {xs : List S72} (h : Kd.C k72 w A n xs) (i : Int) (h0 : 0 ≤ i) (h1 : i < n) : ∃ ad A3 c3, A = some ad ∧ w.cell? (ad.add (i.toNat * 4)) = some (.int .i64 (rd_T72 xs i).f0) ∧ w.cell? ⟨(ad.add (i.toNat * 4)).block, (ad.add (i.toNat * 4)).off + 1, none⟩ = some (.int .i64 (rd_T72 xs i).f1) ∧ w.cell? ⟨(ad.add (i.toNat * 4)).block, (ad.add (i.toNat * 4)).off + 2, none⟩ = some (.int .i64 (rd_T72 xs i).f2) ∧ w.cell? ⟨(ad.add (i.toNat * 4)).block, (ad.add (i.toNat * 4)).off + 3, none⟩ = some (.slice A3 (rd_T72 xs i).f3.length c3) ∧ (rd_T72 xs i).f3.length ≤ c3 ∧ (Kd.int .i64).C w A3 (rd_T72 xs i).f3.length (rd_T72 xs i).f3 := by
  obtain ⟨ad, c, e, _, hK, hc0⟩ := Kd.C_get h z72 i h0 h1
  have hc : ∀ j u, c[j]? = some u → w.cell? (ad.add (i.toNat * 4 + j)) = some u := hc0
  obtain ⟨A3, c3, rfl, l3, g3⟩ := k72_open hK
  exact ⟨ad, A3, c3, e, hc 0 _ rfl, by rw [← add_field _ _ 1 (by omega)]; exact hc 1 _ rfl, by rw [← add_field _ _ 2 (by omega)]; exact hc 2 _ rfl, by rw [← add_field _ _ 3 (by omega)]; exact hc 3 _ rfl, l3, g3⟩

/-! #### struct type 87 -/
structure S87 where
  f0 : (List Int)
  f1 : Int
def z87 : S87 := ⟨([] : List Int), (0 : Int)⟩
def k87 : Kd S87 := Kd.iso (Kd.pair (Kd.slice 5 (Kd.int .u8)) (Kd.int .i64)) (fun x : S87 => (x.f0, x.f1))
theorem k87_open {w : World} {x : S87} {cs : List Value} (h : k87.K w x cs) : ∃ A0 c0, cs = [.slice A0 x.f0.length c0, .int .i64 x.f1] ∧ x.f0.length ≤ c0 ∧ (Kd.int .u8).C w A0 x.f0.length x.f0 := by
  obtain ⟨_, _, rfl, ⟨A0, c0, rfl, l0, g0⟩, rfl⟩ := h
  exact ⟨A0, c0, rfl, l0, g0⟩
theorem k87_openM {w : World} {base : Nat} {ok : Nat → Prop} {x : S87} {cs : List Value} (h : k87.M w base ok x cs) : ∃ v0, cs = [v0, .int .i64 x.f1] ∧ (Kd.int .u8).R 5 w base ok v0 x.f0 := by
  obtain ⟨_, _, rfl, ⟨v0, rfl, g0⟩, rfl⟩ := h
  exact ⟨v0, rfl, g0⟩
theorem k87_mk (w : World) (x : S87) {A0 : Option Addr} {c0 : Nat} (l0 : x.f0.length ≤ c0) (g0 : (Kd.int .u8).C w A0 x.f0.length x.f0) : k87.K w x [.slice A0 x.f0.length c0, .int .i64 x.f1] := ⟨[.slice A0 x.f0.length c0], [.int .i64 x.f1], rfl, ⟨A0, c0, rfl, l0, g0⟩, rfl⟩
theorem k87_mkM (w : World) (base : Nat) (ok : Nat → Prop) (x : S87) {v0 : Value} (g0 : (Kd.int .u8).R 5 w base ok v0 x.f0) : k87.M w base ok x [v0, .int .i64 x.f1] := ⟨[v0], [.int .i64 x.f1], rfl, ⟨v0, rfl, g0⟩, rfl⟩
def rd_T87 (xs : List S87) (i : Int) : S87 := xs.getD i.toNat z87
theorem at_T87 {w : World} {A : Option Addr} {n : Nat} {xs : List S87} (h : Kd.C k87 w A n xs) (i : Int) (h0 : 0 ≤ i) (h1 : i < n) : ∃ ad A0 c0, A = some ad ∧ w.cell? (ad.add (i.toNat * 2)) = some (.slice A0 (rd_T87 xs i).f0.length c0) ∧ w.cell? ⟨(ad.add (i.toNat * 2)).block, (ad.add (i.toNat * 2)).off + 1, none⟩ = some (.int .i64 (rd_T87 xs i).f1) ∧ (rd_T87 xs i).f0.length ≤ c0 ∧ (Kd.int .u8).C w A0 (rd_T87 xs i).f0.length (rd_T87 xs i).f0 := by
  obtain ⟨ad, c, e, _, hK, hc0⟩ := Kd.C_get h z87 i h0 h1
  have hc : ∀ j u, c[j]? = some u → w.cell? (ad.add (i.toNat * 2 + j)) = some u := hc0
  obtain ⟨A0, c0, rfl, l0, g0⟩ := k87_open hK
  exact ⟨ad, A0, c0, e, hc 0 _ rfl, by rw [← add_field _ _ 1 (by omega)]; exact hc 1 _ rfl, l0, g0⟩

/-! #### struct type 88 -/
structure S88 where
  f0 : (List Int)
  f1 : Int
def z88 : S88 := ⟨([] : List Int), (0 : Int)⟩
def k88 : Kd S88 := Kd.iso (Kd.pair (Kd.slice 5 (Kd.int .u8)) (Kd.int .i64)) (fun x : S88 => (x.f0, x.f1))
theorem k88_open {w : World} {x : S88} {cs : List Value} (h : k88.K w x cs) : ∃ A0 c0, cs = [.slice A0 x.f0.length c0, .int .i64 x.f1] ∧ x.f0.length ≤ c0 ∧ (Kd.int .u8).C w A0 x.f0.length x.f0 := by
  obtain ⟨_, _, rfl, ⟨A0, c0, rfl, l0, g0⟩, rfl⟩ := h
  exact ⟨A0, c0, rfl, l0, g0⟩
theorem k88_openM {w : World} {base : Nat} {ok : Nat → Prop} {x : S88} {cs : List Value} (h : k88.M w base ok x cs) : ∃ v0, cs = [v0, .int .i64 x.f1] ∧ (Kd.int .u8).R 5 w base ok v0 x.f0 := by
  obtain ⟨_, _, rfl, ⟨v0, rfl, g0⟩, rfl⟩ := h
  exact ⟨v0, rfl, g0⟩
theorem k88_mk (w : World) (x : S88) {A0 : Option Addr} {c0 : Nat} (l0 : x.f0.length ≤ c0) (g0 : (Kd.int .u8).C w A0 x.f0.length x.f0) : k88.K w x [.slice A0 x.f0.length c0, .int .i64 x.f1] := ⟨[.slice A0 x.f0.length c0], [.int .i64 x.f1], rfl, ⟨A0, c0, rfl, l0, g0⟩, rfl⟩
theorem k88_mkM (w : World) (base : Nat) (ok : Nat → Prop) (x : S88) {v0 : Value} (g0 : (Kd.int .u8).R 5 w base ok v0 x.f0) : k88.M w base ok x [v0, .int .i64 x.f1] := ⟨[v0], [.int .i64 x.f1], rfl, ⟨v0, rfl, g0⟩, rfl⟩
def rd_T88 (xs : List S88) (i : Int) : S88 := xs.getD i.toNat z88
theorem at_T88 {w : World} {A : Option Addr} {n : Nat} {xs : List S88} (h : Kd.C k88 w A n xs) (i : Int) (h0 : 0 ≤ i) (h1 : i < n) : ∃ ad A0 c0, A = some ad ∧ w.cell? (ad.add (i.toNat * 2)) = some (.slice A0 (rd_T88 xs i).f0.length c0) ∧ w.cell? ⟨(ad.add (i.toNat * 2)).block, (ad.add (i.toNat * 2)).off + 1, none⟩ = some (.int .i64 (rd_T88 xs i).f1) ∧ (rd_T88 xs i).f0.length ≤ c0 ∧ (Kd.int .u8).C w A0 (rd_T88 xs i).f0.length (rd_T88 xs i).f0 := by
  obtain ⟨ad, c, e, _, hK, hc0⟩ := Kd.C_get h z88 i h0 h1
  have hc : ∀ j u, c[j]? = some u → w.cell? (ad.add (i.toNat * 2 + j)) = some u := hc0
  obtain ⟨A0, c0, rfl, l0, g0⟩ := k88_open hK
  exact ⟨ad, A0, c0, e, hc 0 _ rfl, by rw [← add_field _ _ 1 (by omega)]; exact hc 1 _ rfl, l0, g0⟩

end Go.Proofs.Ytfgeickfheogoaa.Q

namespace Go.Proofs.Ytfgeickfheogoaa.Q
open Go.RowKit Go.Proofs.YtfgeickfheogoaaW.PrintWords Go.Proofs.YtfgeickfheogoaaW.PrintLast Go.Proofs.YtfgeickfheogoaaW.PrintMore
attribute [local go_sem] max2_int min2_int max_two min_two max_three min_three max_four min_four
set_option linter.unusedVariables false
set_option linter.unusedSimpArgs false
/-! ### laws_szRunS: function 17 -/
def laws_szRunS.f (l0 : List (S59)) (a1 : Int) : Option (Int) := if (wrap64 (a1 - (l0.length : Int))) < 0 then (some (-1)) else (some (wrap64 (a1 - (l0.length : Int))))
set_option maxHeartbeats 8000000 in
set_option maxRecDepth 100000 in
theorem laws_szRunS.calls (A0 : Option Addr) (c0 : Nat) (l0 : List (S59)) (a1 : Int) (r : Int) (w : World) (hr0 : Kd.C k59 w A0 l0.length l0) (hc0 : l0.length ≤ c0) (h : laws_szRunS.f l0 a1 = some r) :
    Calls Try.prog 17 #[.slice A0 l0.length c0, .int .i64 a1] w fun e w' => e = .returned (.int .i64 r) ∧ Drawn0 w w' := by
  have HR0 := Aside0.mk hr0
  have HC0 := Aside0.mk hc0
  clear hr0 hc0
  have H : (if (wrap64 (a1 - (l0.length : Int))) < 0 then (some (-1)) else (some (wrap64 (a1 - (l0.length : Int))))) = some r := h
  clear h
  by_cases c3 : (wrap64 (a1 - (l0.length : Int))) < 0
  · rw [if_pos c3] at H
    have c3b0 : decide ((wrap64 (a1 - (l0.length : Int))) < 0) = true := decide_eq_true c3
    clear c3
    obtain rfl := Option.some.inj H
    go_enter Try.func17, Try.ntmps17
    go_wp2
    go_ret
    exact ⟨by first | rfl | (simp; done) | (simp [*]; done), by repeat (first | exact Drawn0.refl _ | apply Drawn0.step)⟩
  · rw [if_neg c3] at H
    have c3b0 : decide ((wrap64 (a1 - (l0.length : Int))) < 0) = false := decide_eq_false c3
    clear c3
    obtain rfl := Option.some.inj H
    go_enter Try.func17, Try.ntmps17
    go_wp2
    go_ret
    exact ⟨by first | rfl | (simp; done) | (simp [*]; done), by repeat (first | exact Drawn0.refl _ | apply Drawn0.step)⟩

end Go.Proofs.Ytfgeickfheogoaa.Q

namespace Go.Proofs.Ytfgeickfheogoaa.Q
open Go.RowKit Go.Proofs.YtfgeickfheogoaaW.PrintWords Go.Proofs.YtfgeickfheogoaaW.PrintLast Go.Proofs.YtfgeickfheogoaaW.PrintMore
attribute [local go_sem] max2_int min2_int max_two min_two max_three min_three max_four min_four
set_option linter.unusedVariables false
set_option linter.unusedSimpArgs false
/-! ### laws_toRun: function 54 -/
def laws_toRun.f (a0_0 : Int) (a0_1 : Int) (a0_2 : Int) : Option (Int × Int × Int) := some (a0_0, a0_1, a0_2)
set_option maxHeartbeats 8000000 in
set_option maxRecDepth 100000 in
theorem laws_toRun.calls (a0_0 : Int) (a0_1 : Int) (a0_2 : Int) (r1 : Int) (r2 : Int) (r3 : Int) (w : World) (h : laws_toRun.f a0_0 a0_1 a0_2 = some (r1, r2, r3)) :
    Calls Try.prog 54 #[.agg #[.int .i64 a0_0, .int .i64 a0_1, .int .i64 a0_2]] w fun e w' => e = .returned (.agg #[.int .i64 r1, .int .i64 r2, .int .i64 r3]) ∧ Below w.heap.size w w' := by
  have hu59 := Try.underlying59
  have hu57 := Try.underlying57
  have HB := Aside0.mk (Below.refl w.heap.size w)
  have H : (some (a0_0, a0_1, a0_2)) = some (r1, r2, r3) := h
  clear h
  simp only [Option.some.injEq, Prod.mk.injEq] at H
  obtain ⟨rfl, rfl, rfl⟩ := H
  go_enter Try.func54, Try.ntmps54
  go_wp2_with (first | ((with_reducible refine gate_dst (N := 1) rfl ?_); refine box_event ?hg (N := 1) ?hd (cs := #[.int .i64 a0_0, .int .i64 a0_1, .int .i64 a0_2]) (t := 59) ?hr ?_; (case hd => rfl); (case hg => rfl); (case hr => first | (go_simp; done) | (go_simp; rfl)); intro gb55001 hg w2 hbox hb; have n0_ := Aside0.mk (below_step (by repeat (first | (with_reducible first | exact HB.out | apply below_alloc | apply pw_below_drewN | apply below_drew1) | exact HB.out)) hb); have n1_ := Aside0.mk (hbox); have n2_ := Aside0.mk ((by rw [hg]; exact (below_size (by repeat (first | (with_reducible first | exact HB.out | apply below_alloc | apply pw_below_drewN | apply below_drew1) | exact HB.out))) : w.heap.size ≤ gb55001)); have n3_ := Aside0.mk ((by rw [hg]; exact (below_size (by repeat (first | (with_reducible first | exact HB.out | apply below_alloc | apply pw_below_drewN | apply below_drew1) | exact HB.out))) : w.heap.size ≤ gb55001)); clear HB; have HB := n0_; have BK55001 := n1_; have GW55001 := n2_; have GE55001 := n3_; clear n0_ n1_ n2_ n3_; clear hb hbox hg) | ((with_reducible refine gate_dst (N := 2) rfl ?_); refine box_event ?hg (N := 2) ?hd (cs := #[.int .i64 0, .int .i64 0, .int .i64 0]) (t := 57) ?hr ?_; (case hd => rfl); (case hg => rfl); (case hr => first | (go_simp; done) | (go_simp; rfl)); intro gb55002 hg w3 hbox hb; have n0_ := Aside0.mk (blk_below (g := gb55001) (o := .cells #[.int .i64 a0_0, .int .i64 a0_1, .int .i64 a0_2] 59 (0, 0)) (by (with_reducible repeat (first | refine blk_drewN ?_ _ | refine blk_drew ?_ | refine blk_alloc ?_ _)); exact BK55001.out) hb); have n1_ := Aside0.mk (below_step (by repeat (first | (with_reducible first | exact HB.out | apply below_alloc | apply pw_below_drewN | apply below_drew1 | refine below_set ?_ GE55001.out) | exact HB.out)) hb); have n2_ := Aside0.mk (hbox); have n3_ := Aside0.mk ((by rw [hg]; exact (below_size (by repeat (first | (with_reducible first | exact HB.out | apply below_alloc | apply pw_below_drewN | apply below_drew1 | refine below_set ?_ GE55001.out) | exact HB.out))) : w.heap.size ≤ gb55002)); have n4_ := Aside0.mk ((by rw [hg]; exact (below_size (by repeat (first | (with_reducible first | exact HB.out | apply below_alloc | apply pw_below_drewN | apply below_drew1 | refine below_set ?_ GE55001.out) | exact HB.out))) : w.heap.size ≤ gb55002)); have n5_ := Aside0.mk ((by rw [hg]; exact Nat.ne_of_lt (blk_lt (g := gb55001) (o := .cells #[.int .i64 a0_0, .int .i64 a0_1, .int .i64 a0_2] 59 (0, 0)) (by (with_reducible repeat (first | refine blk_drewN ?_ _ | refine blk_drew ?_ | refine blk_alloc ?_ _)); exact BK55001.out)) : gb55001 ≠ gb55002)); have n6_ := Aside0.mk ((by rw [hg]; exact Nat.ne_of_gt (blk_lt (g := gb55001) (o := .cells #[.int .i64 a0_0, .int .i64 a0_1, .int .i64 a0_2] 59 (0, 0)) (by (with_reducible repeat (first | refine blk_drewN ?_ _ | refine blk_drew ?_ | refine blk_alloc ?_ _)); exact BK55001.out)) : gb55002 ≠ gb55001)); clear BK55001; clear HB; have BK55001 := n0_; have HB := n1_; have BK55002 := n2_; have GW55002 := n3_; have GE55002 := n4_; have NB55001_55002 := n5_; have NB55002_55001 := n6_; clear n0_ n1_ n2_ n3_ n4_ n5_ n6_; clear hb hbox hg) | ((with_reducible refine gate_dst (N := 3) rfl ?_); refine box_event ?hg (N := 3) ?hd (cs := #[.int .i64 0, .int .i64 0, .int .i64 0]) (t := 57) ?hr ?_; (case hd => rfl); (case hg => rfl); (case hr => first | (go_simp; done) | (go_simp; rfl)); intro gb55003 hg w4 hbox hb; have n0_ := Aside0.mk (blk_below (g := gb55001) (o := .cells #[.int .i64 a0_0, .int .i64 a0_1, .int .i64 a0_2] 59 (0, 0)) (by (with_reducible repeat (first | refine blk_drewN ?_ _ | refine blk_drew ?_ | refine blk_alloc ?_ _)); exact BK55001.out) hb); have n1_ := Aside0.mk (blk_below (g := gb55002) (o := .cells #[.int .i64 0, .int .i64 0, .int .i64 0] 57 (0, 0)) (by (with_reducible repeat (first | refine blk_drewN ?_ _ | refine blk_drew ?_ | refine blk_alloc ?_ _)); exact BK55002.out) hb); have n2_ := Aside0.mk (below_step (by repeat (first | (with_reducible first | exact HB.out | apply below_alloc | apply pw_below_drewN | apply below_drew1 | refine below_set ?_ GE55001.out | refine below_set ?_ GE55002.out) | exact HB.out)) hb); have n3_ := Aside0.mk (hbox); have n4_ := Aside0.mk ((by rw [hg]; exact (below_size (by repeat (first | (with_reducible first | exact HB.out | apply below_alloc | apply pw_below_drewN | apply below_drew1 | refine below_set ?_ GE55001.out | refine below_set ?_ GE55002.out) | exact HB.out))) : w.heap.size ≤ gb55003)); have n5_ := Aside0.mk ((by rw [hg]; exact (below_size (by repeat (first | (with_reducible first | exact HB.out | apply below_alloc | apply pw_below_drewN | apply below_drew1 | refine below_set ?_ GE55001.out | refine below_set ?_ GE55002.out) | exact HB.out))) : w.heap.size ≤ gb55003)); have n6_ := Aside0.mk ((by rw [hg]; exact Nat.ne_of_lt (blk_lt (g := gb55001) (o := .cells #[.int .i64 a0_0, .int .i64 a0_1, .int .i64 a0_2] 59 (0, 0)) (by (with_reducible repeat (first | refine blk_drewN ?_ _ | refine blk_drew ?_ | refine blk_alloc ?_ _)); exact BK55001.out)) : gb55001 ≠ gb55003)); have n7_ := Aside0.mk ((by rw [hg]; exact Nat.ne_of_gt (blk_lt (g := gb55001) (o := .cells #[.int .i64 a0_0, .int .i64 a0_1, .int .i64 a0_2] 59 (0, 0)) (by (with_reducible repeat (first | refine blk_drewN ?_ _ | refine blk_drew ?_ | refine blk_alloc ?_ _)); exact BK55001.out)) : gb55003 ≠ gb55001)); have n8_ := Aside0.mk ((by rw [hg]; exact Nat.ne_of_lt (blk_lt (g := gb55002) (o := .cells #[.int .i64 0, .int .i64 0, .int .i64 0] 57 (0, 0)) (by (with_reducible repeat (first | refine blk_drewN ?_ _ | refine blk_drew ?_ | refine blk_alloc ?_ _)); exact BK55002.out)) : gb55002 ≠ gb55003)); have n9_ := Aside0.mk ((by rw [hg]; exact Nat.ne_of_gt (blk_lt (g := gb55002) (o := .cells #[.int .i64 0, .int .i64 0, .int .i64 0] 57 (0, 0)) (by (with_reducible repeat (first | refine blk_drewN ?_ _ | refine blk_drew ?_ | refine blk_alloc ?_ _)); exact BK55002.out)) : gb55003 ≠ gb55002)); clear BK55001; clear BK55002; clear HB; have BK55001 := n0_; have BK55002 := n1_; have HB := n2_; have BK55003 := n3_; have GW55003 := n4_; have GE55003 := n5_; have NB55001_55003 := n6_; have NB55003_55001 := n7_; have NB55002_55003 := n8_; have NB55003_55002 := n9_; clear n0_ n1_ n2_ n3_ n4_ n5_ n6_ n7_ n8_ n9_; clear hb hbox hg; have hnb5 := NB55001_55002.out; have hnc5 := NB55002_55001.out; have hnb6 := NB55001_55003.out; have hnc6 := NB55003_55001.out; have hcz7_0 : w4.cell? ⟨gb55001, 0, none⟩ = some (.int .i64 a0_0) := (blk_cell BK55001.out 0).trans rfl; have hcz7_1 : w4.cell? ⟨gb55001, 1, none⟩ = some (.int .i64 a0_1) := (blk_cell BK55001.out 1).trans rfl; have hcz7_2 : w4.cell? ⟨gb55001, 2, none⟩ = some (.int .i64 a0_2) := (blk_cell BK55001.out 2).trans rfl; have hfz7_0 := blk_frozen BK55001.out 0; have hfz7_1 := blk_frozen BK55001.out 1; have hfz7_2 := blk_frozen BK55001.out 2; have hnb8 := NB55003_55002.out; have hnc8 := NB55002_55003.out; have hcz9_0 : w4.cell? ⟨gb55003, 0, none⟩ = some (.int .i64 0) := (blk_cell BK55003.out 0).trans rfl; have hcz9_1 : w4.cell? ⟨gb55003, 1, none⟩ = some (.int .i64 0) := (blk_cell BK55003.out 1).trans rfl; have hcz9_2 : w4.cell? ⟨gb55003, 2, none⟩ = some (.int .i64 0) := (blk_cell BK55003.out 2).trans rfl; have hfz9_0 := blk_frozen BK55003.out 0; have hfz9_1 := blk_frozen BK55003.out 1; have hfz9_2 := blk_frozen BK55003.out 2; have hcz10_0 : w4.cell? ⟨gb55002, 0, none⟩ = some (.int .i64 0) := (blk_cell BK55002.out 0).trans rfl; have hcz10_1 : w4.cell? ⟨gb55002, 1, none⟩ = some (.int .i64 0) := (blk_cell BK55002.out 1).trans rfl; have hcz10_2 : w4.cell? ⟨gb55002, 2, none⟩ = some (.int .i64 0) := (blk_cell BK55002.out 2).trans rfl; have hfz10_0 := blk_frozen BK55002.out 0; have hfz10_1 := blk_frozen BK55002.out 1; have hfz10_2 := blk_frozen BK55002.out 2))
  refine bodyPost_ret (results_cell_row rfl _ _ gb55002 57 #[.int .i64 a0_0, .int .i64 a0_1, .int .i64 a0_2] (0, 0) _ rfl (by (with_reducible repeat (first | refine blk_drewN ?_ _ | refine blk_drew ?_ | refine blk_alloc ?_ _)); refine blk_put (cs := #[.int .i64 a0_0, .int .i64 a0_1, .int .i64 0]) ?_ 2 _ rfl; (with_reducible repeat (first | refine blk_drewN ?_ _ | refine blk_drew ?_ | refine blk_alloc ?_ _)); refine blk_put (cs := #[.int .i64 a0_0, .int .i64 0, .int .i64 0]) ?_ 1 _ rfl; (with_reducible repeat (first | refine blk_drewN ?_ _ | refine blk_drew ?_ | refine blk_alloc ?_ _)); refine blk_put (cs := #[.int .i64 0, .int .i64 0, .int .i64 0]) ?_ 0 _ rfl; (with_reducible repeat (first | refine blk_drewN ?_ _ | refine blk_drew ?_ | refine blk_alloc ?_ _)); refine blk_far ?_ NB55002_55003.out _; (with_reducible repeat (first | refine blk_drewN ?_ _ | refine blk_drew ?_ | refine blk_alloc ?_ _)); refine blk_far ?_ NB55002_55003.out _; (with_reducible repeat (first | refine blk_drewN ?_ _ | refine blk_drew ?_ | refine blk_alloc ?_ _)); refine blk_far ?_ NB55002_55003.out _; (with_reducible repeat (first | refine blk_drewN ?_ _ | refine blk_drew ?_ | refine blk_alloc ?_ _)); exact BK55002.out) Try.underlying57 rfl (by kernel_rfl)) rfl ?_
  exact ⟨by first | rfl | (simp [errW_none, errW_some] <;> rfl) | (simp [*, errW_none, errW_some] <;> rfl), by repeat (first | (with_reducible first | exact HB.out | apply below_alloc | apply pw_below_drewN | apply below_drew1 | refine below_set ?_ GE55001.out | refine below_set ?_ GE55002.out | refine below_set ?_ GE55003.out) | exact HB.out)⟩

end Go.Proofs.Ytfgeickfheogoaa.Q

namespace Go.Proofs.Ytfgeickfheogoaa.Q
open Go.RowKit Go.Proofs.YtfgeickfheogoaaW.PrintWords Go.Proofs.YtfgeickfheogoaaW.PrintLast Go.Proofs.YtfgeickfheogoaaW.PrintMore
attribute [local go_sem] max2_int min2_int max_two min_two max_three min_three max_four min_four
set_option linter.unusedVariables false
set_option linter.unusedSimpArgs false
/-! ### laws_toRunS: function 19 -/
def laws_toRunS.l0 : Nat → List (S59) → List (S57) → Int → Option ((List (S57)))
  | 0, _, _, _ => none
  | k + 1, x0, x3, x4 => if x4 < (x0.length : Int) then (if 0 ≤ x4 then ((laws_toRun.f ((rd_T59 x0 x4).f0) ((rd_T59 x0 x4).f1) ((rd_T59 x0 x4).f2)).bind fun bt20005 => (if x4 < (x3.length : Int) then (laws_toRunS.l0 k x0 (x3.set (x4 : Int).toNat (⟨bt20005.1, bt20005.2.1, bt20005.2.2⟩ : S57)) (wrap64 (x4 + 1))) else (none))) else (none)) else (some x3)
def laws_toRunS.f (k : Nat) (l0 : List (S59)) : Option ((List (S57))) := if 0 ≤ (l0.length : Int) then (if ((l0.length : Int) : Int).toNat ≤ 11728124029610 then (laws_toRunS.l0 k l0 (List.replicate ((l0.length : Int) : Int).toNat z57) 0) else (none)) else (none)
theorem laws_toRunS.mono_l : ∀ k, (∀ y0 y1 y2, LeO (laws_toRunS.l0 k y0 y1 y2) (laws_toRunS.l0 (k + 1) y0 y1 y2))
  | 0 => fun _ _ _ r h => by simp [laws_toRunS.l0] at h
  | k + 1 => by
    have ih0 := laws_toRunS.mono_l k
    · intro y0 y1 y2
      unfold laws_toRunS.l0
      repeat' first
      | (with_reducible exact ih0 _ _ _)
      | (with_reducible exact LeO.refl _)
      | (with_reducible exact LeO.none _)
      | (with_reducible refine LeO.ite ?_ ?_)
      | (with_reducible refine LeO.bind ?_ (fun _ => ?_))
      | exact ih0 _ _ _
      | exact LeO.none _
      | refine LeO.ite ?_ ?_
      | refine LeO.bind ?_ (fun _ => ?_)
theorem laws_toRunS.mono : ∀ a0 k, LeO (laws_toRunS.f k a0) (laws_toRunS.f (k + 1) a0) := by
  intro a0 k
  have ih0 := laws_toRunS.mono_l k
  unfold laws_toRunS.f
  repeat' first
      | (with_reducible exact ih0 _ _ _)
      | (with_reducible exact LeO.refl _)
      | (with_reducible exact LeO.none _)
      | (with_reducible refine LeO.ite ?_ ?_)
      | (with_reducible refine LeO.bind ?_ (fun _ => ?_))
      | exact ih0 _ _ _
      | exact LeO.none _
      | refine LeO.ite ?_ ?_
      | refine LeO.bind ?_ (fun _ => ?_)
set_option maxHeartbeats 8000000 in
set_option maxRecDepth 100000 in
theorem laws_toRunS.calls (k : Nat) (A0 : Option Addr) (c0 : Nat) (l0 : List (S59)) (r : List (S57)) (w : World) (hr0 : Kd.C k59 w A0 l0.length l0) (hc0 : l0.length ≤ c0) (h : laws_toRunS.f k l0 = some r) :
    Calls Try.prog 19 #[.slice A0 l0.length c0] w fun e w' => ∃ v0_ : Value, e = .returned (v0_) ∧ Kd.R k57 57 w' w.heap.size (fun _ => True) v0_ r ∧ Below w.heap.size w w' := by
  have hu59 := Try.underlying59
  have hu57 := Try.underlying57
  have HR0 := Aside0.mk hr0
  have HC0 := Aside0.mk hc0
  clear hr0 hc0
  have HB := Aside0.mk (Below.refl w.heap.size w)
  have H : (if 0 ≤ (l0.length : Int) then (if ((l0.length : Int) : Int).toNat ≤ 11728124029610 then (laws_toRunS.l0 k l0 (List.replicate ((l0.length : Int) : Int).toNat z57) 0) else (none)) else (none)) = some r := h
  clear h
  by_cases c2 : 0 ≤ (l0.length : Int)
  · rw [if_pos c2] at H
    have c2b0 := eq_true c2
    have c2b1 : decide (0 ≤ (l0.length : Int)) = true := decide_eq_true c2
    clear c2
    by_cases c3 : ((l0.length : Int) : Int).toNat ≤ 11728124029610
    · rw [if_pos c3] at H
      have c3b0 := eq_true c3
      have c3b1 : decide (((l0.length : Int) : Int).toNat ≤ 11728124029610) = true := decide_eq_true c3
      clear c3
      obtain ⟨y20001, hy20001⟩ : ∃ y_ : List (S57), y_ = (List.replicate ((l0.length : Int) : Int).toNat z57) := ⟨_, rfl⟩
      replace H : (laws_toRunS.l0 k l0 y20001 0) = some r := by first | (rw [hy20001]; with_reducible exact H) | (have H2_ := (Option.bind_some _ _).symm.trans H; rw [hy20001]; with_reducible exact H2_) | (have H2_ := (Option.bind_some _ _).symm.trans H; with_reducible exact H2_) | with_reducible exact H | (rw [hy20001]; exact H) | exact H
      have Ny20001 := Aside0.mk hy20001
      clear hy20001
      have H' := Aside0.mk H
      clear H
      go_enter Try.func19, Try.ntmps19
      go_wp2_with (first | ((with_reducible refine gate_dst (N := 7) rfl ?_); refine Kd.R_make k57 _ 57 rfl (N := 7) rfl 25 _ _ rfl (l0.length : Int) rfl rfl Try.underlying25 (.agg #[(.int .i64 0), (.int .i64 0), (.int .i64 0)]) 24 info57 rfl (by decide) (by omega) z57 (ok := fun _ => True) (okp := fun _ => True) (k57_mkM _ _ _ z57 ) (fun _ hk => hk) trivial (of_decide_eq_true (by first | (with_reducible assumption) | assumption)) (Nat.le_trans (Nat.mul_le_mul_right _ (of_decide_eq_true (by first | (with_reducible assumption) | assumption) : (l0.length : Int).toNat ≤ 11728124029610)) (by omega)) (Below.refl _ _) (Nat.le_refl _) ?_; intro v20002 w4 ho5 hb hg_ hnew_; clear hg_ hnew_; (first | rw [← Ny20001.out] at ho5 | (simp only [Int.reduceToNat] at ho5; rw [← Ny20001.out] at ho5)); have n0_ := Aside0.mk (Kd.R_lower ho5 (below_size (by repeat (first | (with_reducible first | exact HB.out | apply below_alloc | apply pw_below_drewN | apply below_drew1) | exact HB.out)))); have n1_ := Aside0.mk (below_step (by repeat (first | (with_reducible first | exact HB.out | apply below_alloc | apply pw_below_drewN | apply below_drew1) | exact HB.out)) hb); clear HB; have HO20003 := n0_; have HB := n1_; clear n0_ n1_; clear hb ho5))
      go_loopg [4] k (fun kq v4 w' => ∃ (x3_1 : List (S57)) (x4_1 : Int), v4 = .int .i64 x4_1 ∧ Aside0 (laws_toRunS.l0 kq l0 x3_1 x4_1 = some r) ∧ Aside0 (kq ≤ k) ∧ Aside0 (Kd.R k57 57 w' w.heap.size (fun _ => True) v20002 x3_1) ∧ Aside0 (Below w.heap.size w w'))
      case atStart => exact ⟨(y20001), (0), (by first | rfl | (simp; done) | (simp [*]; done)), H', ⟨Nat.le_refl _⟩, ⟨by (with_reducible repeat (first | apply Kd.R_alloc | apply Kd.R_drewN | apply Kd.R_drew)); exact HO20003.out⟩, ⟨by repeat (first | (with_reducible first | exact HB.out | apply below_alloc | apply pw_below_drewN | apply below_drew1) | exact HB.out)⟩⟩
      case round =>
        clear H'
        try clear c1
        try clear c2
        try clear c2b0
        try clear c2b1
        try clear p2
        try clear c3
        try clear c3b0
        try clear c3b1
        obtain ⟨x3_1, x4_1, rfl, HA, HK1, HO_3, HB⟩ := hrel
        cases gk with
        | zero => exact absurd HA.out (by simp [laws_toRunS.l0])
        | succ k1 =>
          have H := HA.out
          clear HA
          simp only [laws_toRunS.l0] at H
          by_cases c6 : x4_1 < (l0.length : Int)
          · rw [if_pos c6] at H
            have c6b0 : decide (x4_1 < (l0.length : Int)) = true := decide_eq_true c6
            clear c6
            by_cases c7 : 0 ≤ x4_1
            · rw [if_pos c7] at H
              have c7b0 : decide (0 ≤ x4_1) = true := decide_eq_true c7
              clear c7
              replace H := Option.bind_eq_some_iff.mp H
              obtain ⟨⟨t20005, t20006, t20007⟩, A80, H⟩ := H
              replace H : (if x4_1 < (x3_1.length : Int) then (laws_toRunS.l0 k1 l0 (x3_1.set (x4_1 : Int).toNat (⟨t20005, t20006, t20007⟩ : S57)) (wrap64 (x4_1 + 1))) else (none)) = some r := H
              have A8 := Aside0.mk A80
              clear A80
              by_cases c9 : x4_1 < (x3_1.length : Int)
              · rw [if_pos c9] at H
                have c9b0 : decide (x4_1 < (x3_1.length : Int)) = true := decide_eq_true c9
                clear c9
                obtain ⟨y20008, hy20008⟩ : ∃ y_ : List (S57), y_ = (x3_1.set (x4_1 : Int).toNat (⟨t20005, t20006, t20007⟩ : S57)) := ⟨_, rfl⟩
                replace H : (laws_toRunS.l0 k1 l0 y20008 (wrap64 (x4_1 + 1))) = some r := by first | (rw [hy20008]; with_reducible exact H) | (have H2_ := (Option.bind_some _ _).symm.trans H; rw [hy20008]; with_reducible exact H2_) | (have H2_ := (Option.bind_some _ _).symm.trans H; with_reducible exact H2_) | with_reducible exact H | (rw [hy20008]; exact H) | exact H
                have Ny20008 := Aside0.mk hy20008
                clear hy20008
                have H' := Aside0.mk H
                clear H
                have p20004 : 0 ≤ (x4_1 : Int) := of_decide_eq_true (by first | (with_reducible assumption) | assumption)
                have q20004 : x4_1 < (l0.length : Int) := of_decide_eq_true (by first | (with_reducible assumption) | assumption)
                obtain ⟨ad20004, e20004, hx20004_0, hx20004_1, hx20004_2⟩ := at_T59 HR0.out x4_1 p20004 q20004
                cases e20004
                replace hx20004_0 := (HB.out.cell (World.block_lt_of_cell? w _ hx20004_0)).trans hx20004_0
                replace hx20004_1 := (HB.out.cell (World.block_lt_of_cell? w _ hx20004_1)).trans hx20004_1
                replace hx20004_2 := (HB.out.cell (World.block_lt_of_cell? w _ hx20004_2)).trans hx20004_2
                replace p20004 := eq_true p20004
                replace q20004 := eq_true q20004
                go_wp2_with (first | ((with_reducible refine gate_callee (f := 54) rfl ?_); refine goesL_ (some 20) rfl rfl Try.func54 (by kernel_rfl) rfl #[.agg #[.int .i64 ((rd_T59 l0 x4_1).f0), .int .i64 ((rd_T59 l0 x4_1).f1), .int .i64 ((rd_T59 l0 x4_1).f2)]] rfl (by (try simp only [List.map_toArray, List.map_cons, List.map_nil]); first | done | rfl | (simp only [List.length_drop, List.length_take]; rfl)) ?_; (with_reducible refine (laws_toRun.calls ((rd_T59 l0 x4_1).f0) ((rd_T59 l0 x4_1).f1) ((rd_T59 l0 x4_1).f2) t20005 t20006 t20007 _ A8.out).mono ?_); rintro e w11 ⟨rfl, hb⟩; refine ⟨_, rfl, ?_⟩; have n0_ := Aside0.mk (Kd.R_below (by (with_reducible repeat (first | apply Kd.R_alloc | apply Kd.R_drewN | apply Kd.R_drew)); exact HO_3.out) hb); have n1_ := Aside0.mk (below_step (by repeat (first | (with_reducible first | exact HB.out | apply below_alloc | apply pw_below_drewN | apply below_drew1) | exact HB.out)) hb); clear HO_3; clear HB; have HO_3 := n0_; have HB := n1_; clear n0_ n1_; (try clear hb); (try clear hb2); (try clear hk); (try clear hi); have p10 : 0 ≤ (x4_1 : Int) := of_decide_eq_true (by first | (with_reducible assumption) | assumption); have q10 : (x4_1 : Int) < ((x3_1.length : Int) : Int) := of_decide_eq_true (by first | (with_reducible assumption) | assumption); obtain ⟨go10, co10, eo10, gb10, gl10, cl10, HG10⟩ := Kd.R_form HO_3.out (by omega); (first | cases eo10 | (injection eo10 with ea_ en_ ec_; (first | subst ea_ | (injection ea_ with ea_; subst ea_)); subst ec_; clear en_)); have GB10 := Aside0.mk gb10; have GG10 := Aside0.mk HG10; clear gb10 gl10 HG10; obtain ⟨ce10, hcl10, hM10, hcc10, hfr10⟩ := Kd.R_elem HO_3.out z57 (x4_1 : Int) p10 q10; obtain rfl := k57_openM hM10; have hx10_0 : w11.cell? ⟨go10, (x4_1 : Int).toNat * 3, none⟩ = some (.int .i64 ((rd_T57 x3_1 x4_1).f0)) := hcc10 0 _ rfl; have hx10_1 : w11.cell? ⟨go10, (x4_1 : Int).toNat * 3 + 1, none⟩ = some (.int .i64 ((rd_T57 x3_1 x4_1).f1)) := hcc10 1 _ rfl; have hx10_2 : w11.cell? ⟨go10, (x4_1 : Int).toNat * 3 + 2, none⟩ = some (.int .i64 ((rd_T57 x3_1 x4_1).f2)) := hcc10 2 _ rfl; have hf10_0 : w11.frozen? ⟨go10, (x4_1 : Int).toNat * 3, none⟩ = false := hfr10 0; have hf10_1 : w11.frozen? ⟨go10, (x4_1 : Int).toNat * 3 + 1, none⟩ = false := hfr10 1; have hf10_2 : w11.frozen? ⟨go10, (x4_1 : Int).toNat * 3 + 2, none⟩ = false := hfr10 2; clear hcl10 hcc10 hfr10 hM10; replace p10 := eq_true p10; replace q10 := eq_true q10; have HX12 := Aside0.mk (show Kd.R k57 57 w11 w.heap.size (fun _ => True) (.slice (some ⟨go10, 0, none⟩) x3_1.length co10) x3_1 from (by (with_reducible repeat (first | apply Kd.R_alloc | apply Kd.R_drewN | apply Kd.R_drew)); exact HO_3.out)); obtain ⟨ce12, hcl12, hM12, hcc12, hfr12⟩ := Kd.R_elem HX12.out z57 (x4_1 : Int) (of_decide_eq_true (by first | (with_reducible assumption) | assumption)) (by have h_ : (x4_1 : Int) < ((x3_1.length : Int) : Int) := of_decide_eq_true (by first | (with_reducible assumption) | assumption); first | exact h_ | (have e_ := (Kd.R_reads' HO_3.out).1; omega) | simpa using h_); obtain rfl := k57_openM hM12; have HP12 := Kd.R_seg HX12.out (x4_1 : Int) (of_decide_eq_true (by first | (with_reducible assumption) | assumption)) (by have h_ : (x4_1 : Int) < ((x3_1.length : Int) : Int) := of_decide_eq_true (by first | (with_reducible assumption) | assumption); first | exact h_ | (have e_ := (Kd.R_reads' HO_3.out).1; omega) | simpa using h_) (seg := [.int .i64 t20005, .int .i64 t20006, .int .i64 t20007]) (j := 0) hcl12 hcc12 (show 3 ≤ 3 from by decide) (x' := (⟨t20005, t20006, t20007⟩ : S57)) (k57_mkM _ _ _ (⟨t20005, t20006, t20007⟩ : S57) ) (fun _ hk => hk); have hx12_0 := hcc12 0 _ rfl; (try simp only [show (k57).sz = 3 from rfl, Nat.mul_one, Nat.add_zero] at hx12_0); have hf12_0 := hfr12 0; (try simp only [show (k57).sz = 3 from rfl, Nat.mul_one, Nat.add_zero] at hf12_0); have hx12_1 := hcc12 1 _ rfl; (try simp only [show (k57).sz = 3 from rfl, Nat.mul_one, Nat.add_zero] at hx12_1); have hf12_1 := hfr12 1; (try simp only [show (k57).sz = 3 from rfl, Nat.mul_one, Nat.add_zero] at hf12_1); have hx12_2 := hcc12 2 _ rfl; (try simp only [show (k57).sz = 3 from rfl, Nat.mul_one, Nat.add_zero] at hx12_2); have hf12_2 := hfr12 2; (try simp only [show (k57).sz = 3 from rfl, Nat.mul_one, Nat.add_zero] at hf12_2); clear hcl12 hcc12 hfr12 hM12) | ((with_reducible refine gate_store (t := 57) (p := 21) rfl ?_); refine store_event (t := 57) (p := 21) (v := ?vo_w13) (w1 := (((w11.setCell ⟨go10, (x4_1 : Int).toNat * 3, none⟩ (.int .i64 t20005)).setCell ⟨go10, (x4_1 : Int).toNat * 3 + 1, none⟩ (.int .i64 t20006)).setCell ⟨go10, (x4_1 : Int).toNat * 3 + 2, none⟩ (.int .i64 t20007))) ?hg ?ho ?hn ?hr ?_; (case ho => rfl); (case hg => rfl); (case hn => rfl); (case hr => first | (go_simp; done) | (go_simp; rfl)); intro w13 hw; have hg : w11.grownBy w13 (some go10) := (by rw [hw]; exact HP12.2); have hp_ : Kd.R k57 57 w13 w.heap.size (fun _ => True) (.slice (some ⟨go10, 0, none⟩) x3_1.length co10) y20008 := (by rw [hw, Ny20008.out]; exact HP12.1); clear HP12; have n0_ := Aside0.mk (hp_); have n1_ := Aside0.mk ((by rw [hw]; exact below_set (below_set (below_set (HB.out) GB10.out) GB10.out) GB10.out : Below w.heap.size w w13)); clear HO_3; clear HB; have HO_3 := n0_; have HB := n1_; clear n0_ n1_; clear hg hw hp_))
                go_roundg k1
                case measure => have := HK1.out; omega
                case rel => exact ⟨(y20008), (wrap64 (x4_1 + 1)), (by first | rfl | (simp; done) | (simp [*]; done)), H', ⟨by have := HK1.out; omega⟩, ⟨by (with_reducible repeat (first | apply Kd.R_alloc | apply Kd.R_drewN | apply Kd.R_drew)); exact HO_3.out⟩, ⟨by repeat (first | (with_reducible first | exact HB.out | apply below_alloc | apply pw_below_drewN | apply below_drew1) | exact HB.out)⟩⟩
              · rw [if_neg c9] at H
                exact absurd H (by simp)
            · rw [if_neg c7] at H
              exact absurd H (by simp)
          · rw [if_neg c6] at H
            have c6b0 : decide (x4_1 < (l0.length : Int)) = false := decide_eq_false c6
            clear c6
            obtain rfl := Option.some.inj H
            go_wp2
            go_ret
            exact ⟨_, by first | rfl | (simp [errW_none, errW_some] <;> rfl) | (simp [*, errW_none, errW_some] <;> rfl), by (with_reducible repeat (first | apply Kd.R_alloc | apply Kd.R_drewN | apply Kd.R_drew)); exact HO_3.out, by repeat (first | (with_reducible first | exact HB.out | apply below_alloc | apply pw_below_drewN | apply below_drew1) | exact HB.out)⟩
    · rw [if_neg c3] at H
      exact absurd H (by simp)
  · rw [if_neg c2] at H
    exact absurd H (by simp)

end Go.Proofs.Ytfgeickfheogoaa.Q

namespace Go.Proofs.Ytfgeickfheogoaa.Q
open Go.RowKit Go.Proofs.YtfgeickfheogoaaW.PrintWords Go.Proofs.YtfgeickfheogoaaW.PrintLast Go.Proofs.YtfgeickfheogoaaW.PrintMore
attribute [local go_sem] max2_int min2_int max_two min_two max_three min_three max_four min_four
set_option linter.unusedVariables false
set_option linter.unusedSimpArgs false
/-! ### laws_eqRun: function 56 -/
def laws_eqRun.f (a0_0 : Int) (a0_1 : Int) (a0_2 : Int) (a1_0 : Int) (a1_1 : Int) (a1_2 : Int) : Option (Bool) := if a0_0 = a1_0 then (if a0_1 = a1_1 then (if a0_2 = a1_2 then (some true) else (some false)) else (some false)) else (some false)
set_option maxHeartbeats 8000000 in
set_option maxRecDepth 100000 in
theorem laws_eqRun.calls (a0_0 : Int) (a0_1 : Int) (a0_2 : Int) (a1_0 : Int) (a1_1 : Int) (a1_2 : Int) (r : Bool) (w : World) (h : laws_eqRun.f a0_0 a0_1 a0_2 a1_0 a1_1 a1_2 = some r) :
    Calls Try.prog 56 #[.agg #[.int .i64 a0_0, .int .i64 a0_1, .int .i64 a0_2], .agg #[.int .i64 a1_0, .int .i64 a1_1, .int .i64 a1_2]] w fun e w' => e = .returned (.bool r) ∧ Below w.heap.size w w' := by
  have hu57 := Try.underlying57
  have HB := Aside0.mk (Below.refl w.heap.size w)
  have H : (if a0_0 = a1_0 then (if a0_1 = a1_1 then (if a0_2 = a1_2 then (some true) else (some false)) else (some false)) else (some false)) = some r := h
  clear h
  by_cases c3 : a0_0 = a1_0
  · rw [if_pos c3] at H
    have c3b0 : (a0_0 == a1_0) = true := beq_iff_eq.mpr c3
    have c3b1 : (a0_0 != a1_0) = false := bne_eq_false_iff_eq.mpr c3
    clear c3
    by_cases c4 : a0_1 = a1_1
    · rw [if_pos c4] at H
      have c4b0 : (a0_1 == a1_1) = true := beq_iff_eq.mpr c4
      have c4b1 : (a0_1 != a1_1) = false := bne_eq_false_iff_eq.mpr c4
      clear c4
      by_cases c5 : a0_2 = a1_2
      · rw [if_pos c5] at H
        have c5b0 : (a0_2 == a1_2) = true := beq_iff_eq.mpr c5
        have c5b1 : (a0_2 != a1_2) = false := bne_eq_false_iff_eq.mpr c5
        clear c5
        obtain rfl := Option.some.inj H
        go_enter Try.func56, Try.ntmps56
        go_wp2_with (first | ((with_reducible refine gate_dst (N := 2) rfl ?_); refine box_event ?hg (N := 2) ?hd (cs := #[.int .i64 a0_0, .int .i64 a0_1, .int .i64 a0_2]) (t := 57) ?hr ?_; (case hd => rfl); (case hg => rfl); (case hr => first | (go_simp; done) | (go_simp; rfl)); intro gb57001 hg w6 hbox hb; have n0_ := Aside0.mk (below_step (by repeat (first | (with_reducible first | exact HB.out | apply below_alloc | apply pw_below_drewN | apply below_drew1) | exact HB.out)) hb); have n1_ := Aside0.mk (hbox); have n2_ := Aside0.mk ((by rw [hg]; exact (below_size (by repeat (first | (with_reducible first | exact HB.out | apply below_alloc | apply pw_below_drewN | apply below_drew1) | exact HB.out))) : w.heap.size ≤ gb57001)); have n3_ := Aside0.mk ((by rw [hg]; exact (below_size (by repeat (first | (with_reducible first | exact HB.out | apply below_alloc | apply pw_below_drewN | apply below_drew1) | exact HB.out))) : w.heap.size ≤ gb57001)); clear HB; have HB := n0_; have BK57001 := n1_; have GW57001 := n2_; have GE57001 := n3_; clear n0_ n1_ n2_ n3_; clear hb hbox hg) | ((with_reducible refine gate_dst (N := 3) rfl ?_); refine box_event ?hg (N := 3) ?hd (cs := #[.int .i64 a1_0, .int .i64 a1_1, .int .i64 a1_2]) (t := 57) ?hr ?_; (case hd => rfl); (case hg => rfl); (case hr => first | (go_simp; done) | (go_simp; rfl)); intro gb57002 hg w7 hbox hb; have n0_ := Aside0.mk (blk_below (g := gb57001) (o := .cells #[.int .i64 a0_0, .int .i64 a0_1, .int .i64 a0_2] 57 (0, 0)) (by (with_reducible repeat (first | refine blk_drewN ?_ _ | refine blk_drew ?_ | refine blk_alloc ?_ _)); exact BK57001.out) hb); have n1_ := Aside0.mk (below_step (by repeat (first | (with_reducible first | exact HB.out | apply below_alloc | apply pw_below_drewN | apply below_drew1 | refine below_set ?_ GE57001.out) | exact HB.out)) hb); have n2_ := Aside0.mk (hbox); have n3_ := Aside0.mk ((by rw [hg]; exact (below_size (by repeat (first | (with_reducible first | exact HB.out | apply below_alloc | apply pw_below_drewN | apply below_drew1 | refine below_set ?_ GE57001.out) | exact HB.out))) : w.heap.size ≤ gb57002)); have n4_ := Aside0.mk ((by rw [hg]; exact (below_size (by repeat (first | (with_reducible first | exact HB.out | apply below_alloc | apply pw_below_drewN | apply below_drew1 | refine below_set ?_ GE57001.out) | exact HB.out))) : w.heap.size ≤ gb57002)); have n5_ := Aside0.mk ((by rw [hg]; exact Nat.ne_of_lt (blk_lt (g := gb57001) (o := .cells #[.int .i64 a0_0, .int .i64 a0_1, .int .i64 a0_2] 57 (0, 0)) (by (with_reducible repeat (first | refine blk_drewN ?_ _ | refine blk_drew ?_ | refine blk_alloc ?_ _)); exact BK57001.out)) : gb57001 ≠ gb57002)); have n6_ := Aside0.mk ((by rw [hg]; exact Nat.ne_of_gt (blk_lt (g := gb57001) (o := .cells #[.int .i64 a0_0, .int .i64 a0_1, .int .i64 a0_2] 57 (0, 0)) (by (with_reducible repeat (first | refine blk_drewN ?_ _ | refine blk_drew ?_ | refine blk_alloc ?_ _)); exact BK57001.out)) : gb57002 ≠ gb57001)); clear BK57001; clear HB; have BK57001 := n0_; have HB := n1_; have BK57002 := n2_; have GW57002 := n3_; have GE57002 := n4_; have NB57001_57002 := n5_; have NB57002_57001 := n6_; clear n0_ n1_ n2_ n3_ n4_ n5_ n6_; clear hb hbox hg; have hnb8 := NB57001_57002.out; have hnc8 := NB57002_57001.out; have hcz9_0 : w7.cell? ⟨gb57001, 0, none⟩ = some (.int .i64 a0_0) := (blk_cell BK57001.out 0).trans rfl; have hcz9_1 : w7.cell? ⟨gb57001, 1, none⟩ = some (.int .i64 a0_1) := (blk_cell BK57001.out 1).trans rfl; have hcz9_2 : w7.cell? ⟨gb57001, 2, none⟩ = some (.int .i64 a0_2) := (blk_cell BK57001.out 2).trans rfl; have hfz9_0 := blk_frozen BK57001.out 0; have hfz9_1 := blk_frozen BK57001.out 1; have hfz9_2 := blk_frozen BK57001.out 2; have hcz10_0 : w7.cell? ⟨gb57002, 0, none⟩ = some (.int .i64 a1_0) := (blk_cell BK57002.out 0).trans rfl; have hcz10_1 : w7.cell? ⟨gb57002, 1, none⟩ = some (.int .i64 a1_1) := (blk_cell BK57002.out 1).trans rfl; have hcz10_2 : w7.cell? ⟨gb57002, 2, none⟩ = some (.int .i64 a1_2) := (blk_cell BK57002.out 2).trans rfl; have hfz10_0 := blk_frozen BK57002.out 0; have hfz10_1 := blk_frozen BK57002.out 1; have hfz10_2 := blk_frozen BK57002.out 2))
        go_ret
        exact ⟨by first | rfl | (simp [errW_none, errW_some] <;> rfl) | (simp [*, errW_none, errW_some] <;> rfl), by repeat (first | (with_reducible first | exact HB.out | apply below_alloc | apply pw_below_drewN | apply below_drew1 | refine below_set ?_ GE57001.out | refine below_set ?_ GE57002.out) | exact HB.out)⟩
      · rw [if_neg c5] at H
        have c5b0 : (a0_2 == a1_2) = false := beq_eq_false_iff_ne.mpr c5
        have c5b1 : (a0_2 != a1_2) = true := bne_iff_ne.mpr c5
        obtain rfl := Option.some.inj H
        go_enter Try.func56, Try.ntmps56
        go_wp2_with (first | ((with_reducible refine gate_dst (N := 2) rfl ?_); refine box_event ?hg (N := 2) ?hd (cs := #[.int .i64 a0_0, .int .i64 a0_1, .int .i64 a0_2]) (t := 57) ?hr ?_; (case hd => rfl); (case hg => rfl); (case hr => first | (go_simp; done) | (go_simp; rfl)); intro gb57001 hg w11 hbox hb; have n0_ := Aside0.mk (below_step (by repeat (first | (with_reducible first | exact HB.out | apply below_alloc | apply pw_below_drewN | apply below_drew1) | exact HB.out)) hb); have n1_ := Aside0.mk (hbox); have n2_ := Aside0.mk ((by rw [hg]; exact (below_size (by repeat (first | (with_reducible first | exact HB.out | apply below_alloc | apply pw_below_drewN | apply below_drew1) | exact HB.out))) : w.heap.size ≤ gb57001)); have n3_ := Aside0.mk ((by rw [hg]; exact (below_size (by repeat (first | (with_reducible first | exact HB.out | apply below_alloc | apply pw_below_drewN | apply below_drew1) | exact HB.out))) : w.heap.size ≤ gb57001)); clear HB; have HB := n0_; have BK57001 := n1_; have GW57001 := n2_; have GE57001 := n3_; clear n0_ n1_ n2_ n3_; clear hb hbox hg) | ((with_reducible refine gate_dst (N := 3) rfl ?_); refine box_event ?hg (N := 3) ?hd (cs := #[.int .i64 a1_0, .int .i64 a1_1, .int .i64 a1_2]) (t := 57) ?hr ?_; (case hd => rfl); (case hg => rfl); (case hr => first | (go_simp; done) | (go_simp; rfl)); intro gb57002 hg w12 hbox hb; have n0_ := Aside0.mk (blk_below (g := gb57001) (o := .cells #[.int .i64 a0_0, .int .i64 a0_1, .int .i64 a0_2] 57 (0, 0)) (by (with_reducible repeat (first | refine blk_drewN ?_ _ | refine blk_drew ?_ | refine blk_alloc ?_ _)); exact BK57001.out) hb); have n1_ := Aside0.mk (below_step (by repeat (first | (with_reducible first | exact HB.out | apply below_alloc | apply pw_below_drewN | apply below_drew1 | refine below_set ?_ GE57001.out) | exact HB.out)) hb); have n2_ := Aside0.mk (hbox); have n3_ := Aside0.mk ((by rw [hg]; exact (below_size (by repeat (first | (with_reducible first | exact HB.out | apply below_alloc | apply pw_below_drewN | apply below_drew1 | refine below_set ?_ GE57001.out) | exact HB.out))) : w.heap.size ≤ gb57002)); have n4_ := Aside0.mk ((by rw [hg]; exact (below_size (by repeat (first | (with_reducible first | exact HB.out | apply below_alloc | apply pw_below_drewN | apply below_drew1 | refine below_set ?_ GE57001.out) | exact HB.out))) : w.heap.size ≤ gb57002)); have n5_ := Aside0.mk ((by rw [hg]; exact Nat.ne_of_lt (blk_lt (g := gb57001) (o := .cells #[.int .i64 a0_0, .int .i64 a0_1, .int .i64 a0_2] 57 (0, 0)) (by (with_reducible repeat (first | refine blk_drewN ?_ _ | refine blk_drew ?_ | refine blk_alloc ?_ _)); exact BK57001.out)) : gb57001 ≠ gb57002)); have n6_ := Aside0.mk ((by rw [hg]; exact Nat.ne_of_gt (blk_lt (g := gb57001) (o := .cells #[.int .i64 a0_0, .int .i64 a0_1, .int .i64 a0_2] 57 (0, 0)) (by (with_reducible repeat (first | refine blk_drewN ?_ _ | refine blk_drew ?_ | refine blk_alloc ?_ _)); exact BK57001.out)) : gb57002 ≠ gb57001)); clear BK57001; clear HB; have BK57001 := n0_; have HB := n1_; have BK57002 := n2_; have GW57002 := n3_; have GE57002 := n4_; have NB57001_57002 := n5_; have NB57002_57001 := n6_; clear n0_ n1_ n2_ n3_ n4_ n5_ n6_; clear hb hbox hg; have hnb13 := NB57001_57002.out; have hnc13 := NB57002_57001.out; have hcz14_0 : w12.cell? ⟨gb57001, 0, none⟩ = some (.int .i64 a0_0) := (blk_cell BK57001.out 0).trans rfl; have hcz14_1 : w12.cell? ⟨gb57001, 1, none⟩ = some (.int .i64 a0_1) := (blk_cell BK57001.out 1).trans rfl; have hcz14_2 : w12.cell? ⟨gb57001, 2, none⟩ = some (.int .i64 a0_2) := (blk_cell BK57001.out 2).trans rfl; have hfz14_0 := blk_frozen BK57001.out 0; have hfz14_1 := blk_frozen BK57001.out 1; have hfz14_2 := blk_frozen BK57001.out 2; have hcz15_0 : w12.cell? ⟨gb57002, 0, none⟩ = some (.int .i64 a1_0) := (blk_cell BK57002.out 0).trans rfl; have hcz15_1 : w12.cell? ⟨gb57002, 1, none⟩ = some (.int .i64 a1_1) := (blk_cell BK57002.out 1).trans rfl; have hcz15_2 : w12.cell? ⟨gb57002, 2, none⟩ = some (.int .i64 a1_2) := (blk_cell BK57002.out 2).trans rfl; have hfz15_0 := blk_frozen BK57002.out 0; have hfz15_1 := blk_frozen BK57002.out 1; have hfz15_2 := blk_frozen BK57002.out 2))
        go_ret
        exact ⟨by first | rfl | (simp [errW_none, errW_some] <;> rfl) | (simp [*, errW_none, errW_some] <;> rfl), by repeat (first | (with_reducible first | exact HB.out | apply below_alloc | apply pw_below_drewN | apply below_drew1 | refine below_set ?_ GE57001.out | refine below_set ?_ GE57002.out) | exact HB.out)⟩
    · rw [if_neg c4] at H
      have c4b0 : (a0_1 == a1_1) = false := beq_eq_false_iff_ne.mpr c4
      have c4b1 : (a0_1 != a1_1) = true := bne_iff_ne.mpr c4
      obtain rfl := Option.some.inj H
      go_enter Try.func56, Try.ntmps56
      go_wp2_with (first | ((with_reducible refine gate_dst (N := 2) rfl ?_); refine box_event ?hg (N := 2) ?hd (cs := #[.int .i64 a0_0, .int .i64 a0_1, .int .i64 a0_2]) (t := 57) ?hr ?_; (case hd => rfl); (case hg => rfl); (case hr => first | (go_simp; done) | (go_simp; rfl)); intro gb57001 hg w16 hbox hb; have n0_ := Aside0.mk (below_step (by repeat (first | (with_reducible first | exact HB.out | apply below_alloc | apply pw_below_drewN | apply below_drew1) | exact HB.out)) hb); have n1_ := Aside0.mk (hbox); have n2_ := Aside0.mk ((by rw [hg]; exact (below_size (by repeat (first | (with_reducible first | exact HB.out | apply below_alloc | apply pw_below_drewN | apply below_drew1) | exact HB.out))) : w.heap.size ≤ gb57001)); have n3_ := Aside0.mk ((by rw [hg]; exact (below_size (by repeat (first | (with_reducible first | exact HB.out | apply below_alloc | apply pw_below_drewN | apply below_drew1) | exact HB.out))) : w.heap.size ≤ gb57001)); clear HB; have HB := n0_; have BK57001 := n1_; have GW57001 := n2_; have GE57001 := n3_; clear n0_ n1_ n2_ n3_; clear hb hbox hg) | ((with_reducible refine gate_dst (N := 3) rfl ?_); refine box_event ?hg (N := 3) ?hd (cs := #[.int .i64 a1_0, .int .i64 a1_1, .int .i64 a1_2]) (t := 57) ?hr ?_; (case hd => rfl); (case hg => rfl); (case hr => first | (go_simp; done) | (go_simp; rfl)); intro gb57002 hg w17 hbox hb; have n0_ := Aside0.mk (blk_below (g := gb57001) (o := .cells #[.int .i64 a0_0, .int .i64 a0_1, .int .i64 a0_2] 57 (0, 0)) (by (with_reducible repeat (first | refine blk_drewN ?_ _ | refine blk_drew ?_ | refine blk_alloc ?_ _)); exact BK57001.out) hb); have n1_ := Aside0.mk (below_step (by repeat (first | (with_reducible first | exact HB.out | apply below_alloc | apply pw_below_drewN | apply below_drew1 | refine below_set ?_ GE57001.out) | exact HB.out)) hb); have n2_ := Aside0.mk (hbox); have n3_ := Aside0.mk ((by rw [hg]; exact (below_size (by repeat (first | (with_reducible first | exact HB.out | apply below_alloc | apply pw_below_drewN | apply below_drew1 | refine below_set ?_ GE57001.out) | exact HB.out))) : w.heap.size ≤ gb57002)); have n4_ := Aside0.mk ((by rw [hg]; exact (below_size (by repeat (first | (with_reducible first | exact HB.out | apply below_alloc | apply pw_below_drewN | apply below_drew1 | refine below_set ?_ GE57001.out) | exact HB.out))) : w.heap.size ≤ gb57002)); have n5_ := Aside0.mk ((by rw [hg]; exact Nat.ne_of_lt (blk_lt (g := gb57001) (o := .cells #[.int .i64 a0_0, .int .i64 a0_1, .int .i64 a0_2] 57 (0, 0)) (by (with_reducible repeat (first | refine blk_drewN ?_ _ | refine blk_drew ?_ | refine blk_alloc ?_ _)); exact BK57001.out)) : gb57001 ≠ gb57002)); have n6_ := Aside0.mk ((by rw [hg]; exact Nat.ne_of_gt (blk_lt (g := gb57001) (o := .cells #[.int .i64 a0_0, .int .i64 a0_1, .int .i64 a0_2] 57 (0, 0)) (by (with_reducible repeat (first | refine blk_drewN ?_ _ | refine blk_drew ?_ | refine blk_alloc ?_ _)); exact BK57001.out)) : gb57002 ≠ gb57001)); clear BK57001; clear HB; have BK57001 := n0_; have HB := n1_; have BK57002 := n2_; have GW57002 := n3_; have GE57002 := n4_; have NB57001_57002 := n5_; have NB57002_57001 := n6_; clear n0_ n1_ n2_ n3_ n4_ n5_ n6_; clear hb hbox hg; have hnb18 := NB57001_57002.out; have hnc18 := NB57002_57001.out; have hcz19_0 : w17.cell? ⟨gb57001, 0, none⟩ = some (.int .i64 a0_0) := (blk_cell BK57001.out 0).trans rfl; have hcz19_1 : w17.cell? ⟨gb57001, 1, none⟩ = some (.int .i64 a0_1) := (blk_cell BK57001.out 1).trans rfl; have hcz19_2 : w17.cell? ⟨gb57001, 2, none⟩ = some (.int .i64 a0_2) := (blk_cell BK57001.out 2).trans rfl; have hfz19_0 := blk_frozen BK57001.out 0; have hfz19_1 := blk_frozen BK57001.out 1; have hfz19_2 := blk_frozen BK57001.out 2; have hcz20_0 : w17.cell? ⟨gb57002, 0, none⟩ = some (.int .i64 a1_0) := (blk_cell BK57002.out 0).trans rfl; have hcz20_1 : w17.cell? ⟨gb57002, 1, none⟩ = some (.int .i64 a1_1) := (blk_cell BK57002.out 1).trans rfl; have hcz20_2 : w17.cell? ⟨gb57002, 2, none⟩ = some (.int .i64 a1_2) := (blk_cell BK57002.out 2).trans rfl; have hfz20_0 := blk_frozen BK57002.out 0; have hfz20_1 := blk_frozen BK57002.out 1; have hfz20_2 := blk_frozen BK57002.out 2))
      go_ret
      exact ⟨by first | rfl | (simp [errW_none, errW_some] <;> rfl) | (simp [*, errW_none, errW_some] <;> rfl), by repeat (first | (with_reducible first | exact HB.out | apply below_alloc | apply pw_below_drewN | apply below_drew1 | refine below_set ?_ GE57001.out | refine below_set ?_ GE57002.out) | exact HB.out)⟩
  · rw [if_neg c3] at H
    have c3b0 : (a0_0 == a1_0) = false := beq_eq_false_iff_ne.mpr c3
    have c3b1 : (a0_0 != a1_0) = true := bne_iff_ne.mpr c3
    obtain rfl := Option.some.inj H
    go_enter Try.func56, Try.ntmps56
    go_wp2_with (first | ((with_reducible refine gate_dst (N := 2) rfl ?_); refine box_event ?hg (N := 2) ?hd (cs := #[.int .i64 a0_0, .int .i64 a0_1, .int .i64 a0_2]) (t := 57) ?hr ?_; (case hd => rfl); (case hg => rfl); (case hr => first | (go_simp; done) | (go_simp; rfl)); intro gb57001 hg w21 hbox hb; have n0_ := Aside0.mk (below_step (by repeat (first | (with_reducible first | exact HB.out | apply below_alloc | apply pw_below_drewN | apply below_drew1) | exact HB.out)) hb); have n1_ := Aside0.mk (hbox); have n2_ := Aside0.mk ((by rw [hg]; exact (below_size (by repeat (first | (with_reducible first | exact HB.out | apply below_alloc | apply pw_below_drewN | apply below_drew1) | exact HB.out))) : w.heap.size ≤ gb57001)); have n3_ := Aside0.mk ((by rw [hg]; exact (below_size (by repeat (first | (with_reducible first | exact HB.out | apply below_alloc | apply pw_below_drewN | apply below_drew1) | exact HB.out))) : w.heap.size ≤ gb57001)); clear HB; have HB := n0_; have BK57001 := n1_; have GW57001 := n2_; have GE57001 := n3_; clear n0_ n1_ n2_ n3_; clear hb hbox hg) | ((with_reducible refine gate_dst (N := 3) rfl ?_); refine box_event ?hg (N := 3) ?hd (cs := #[.int .i64 a1_0, .int .i64 a1_1, .int .i64 a1_2]) (t := 57) ?hr ?_; (case hd => rfl); (case hg => rfl); (case hr => first | (go_simp; done) | (go_simp; rfl)); intro gb57002 hg w22 hbox hb; have n0_ := Aside0.mk (blk_below (g := gb57001) (o := .cells #[.int .i64 a0_0, .int .i64 a0_1, .int .i64 a0_2] 57 (0, 0)) (by (with_reducible repeat (first | refine blk_drewN ?_ _ | refine blk_drew ?_ | refine blk_alloc ?_ _)); exact BK57001.out) hb); have n1_ := Aside0.mk (below_step (by repeat (first | (with_reducible first | exact HB.out | apply below_alloc | apply pw_below_drewN | apply below_drew1 | refine below_set ?_ GE57001.out) | exact HB.out)) hb); have n2_ := Aside0.mk (hbox); have n3_ := Aside0.mk ((by rw [hg]; exact (below_size (by repeat (first | (with_reducible first | exact HB.out | apply below_alloc | apply pw_below_drewN | apply below_drew1 | refine below_set ?_ GE57001.out) | exact HB.out))) : w.heap.size ≤ gb57002)); have n4_ := Aside0.mk ((by rw [hg]; exact (below_size (by repeat (first | (with_reducible first | exact HB.out | apply below_alloc | apply pw_below_drewN | apply below_drew1 | refine below_set ?_ GE57001.out) | exact HB.out))) : w.heap.size ≤ gb57002)); have n5_ := Aside0.mk ((by rw [hg]; exact Nat.ne_of_lt (blk_lt (g := gb57001) (o := .cells #[.int .i64 a0_0, .int .i64 a0_1, .int .i64 a0_2] 57 (0, 0)) (by (with_reducible repeat (first | refine blk_drewN ?_ _ | refine blk_drew ?_ | refine blk_alloc ?_ _)); exact BK57001.out)) : gb57001 ≠ gb57002)); have n6_ := Aside0.mk ((by rw [hg]; exact Nat.ne_of_gt (blk_lt (g := gb57001) (o := .cells #[.int .i64 a0_0, .int .i64 a0_1, .int .i64 a0_2] 57 (0, 0)) (by (with_reducible repeat (first | refine blk_drewN ?_ _ | refine blk_drew ?_ | refine blk_alloc ?_ _)); exact BK57001.out)) : gb57002 ≠ gb57001)); clear BK57001; clear HB; have BK57001 := n0_; have HB := n1_; have BK57002 := n2_; have GW57002 := n3_; have GE57002 := n4_; have NB57001_57002 := n5_; have NB57002_57001 := n6_; clear n0_ n1_ n2_ n3_ n4_ n5_ n6_; clear hb hbox hg; have hnb23 := NB57001_57002.out; have hnc23 := NB57002_57001.out; have hcz24_0 : w22.cell? ⟨gb57001, 0, none⟩ = some (.int .i64 a0_0) := (blk_cell BK57001.out 0).trans rfl; have hcz24_1 : w22.cell? ⟨gb57001, 1, none⟩ = some (.int .i64 a0_1) := (blk_cell BK57001.out 1).trans rfl; have hcz24_2 : w22.cell? ⟨gb57001, 2, none⟩ = some (.int .i64 a0_2) := (blk_cell BK57001.out 2).trans rfl; have hfz24_0 := blk_frozen BK57001.out 0; have hfz24_1 := blk_frozen BK57001.out 1; have hfz24_2 := blk_frozen BK57001.out 2; have hcz25_0 : w22.cell? ⟨gb57002, 0, none⟩ = some (.int .i64 a1_0) := (blk_cell BK57002.out 0).trans rfl; have hcz25_1 : w22.cell? ⟨gb57002, 1, none⟩ = some (.int .i64 a1_1) := (blk_cell BK57002.out 1).trans rfl; have hcz25_2 : w22.cell? ⟨gb57002, 2, none⟩ = some (.int .i64 a1_2) := (blk_cell BK57002.out 2).trans rfl; have hfz25_0 := blk_frozen BK57002.out 0; have hfz25_1 := blk_frozen BK57002.out 1; have hfz25_2 := blk_frozen BK57002.out 2))
    go_ret
    exact ⟨by first | rfl | (simp [errW_none, errW_some] <;> rfl) | (simp [*, errW_none, errW_some] <;> rfl), by repeat (first | (with_reducible first | exact HB.out | apply below_alloc | apply pw_below_drewN | apply below_drew1 | refine below_set ?_ GE57001.out | refine below_set ?_ GE57002.out) | exact HB.out)⟩

end Go.Proofs.Ytfgeickfheogoaa.Q

namespace Go.Proofs.Ytfgeickfheogoaa.Q
open Go.RowKit Go.Proofs.YtfgeickfheogoaaW.PrintWords Go.Proofs.YtfgeickfheogoaaW.PrintLast Go.Proofs.YtfgeickfheogoaaW.PrintMore
attribute [local go_sem] max2_int min2_int max_two min_two max_three min_three max_four min_four
set_option linter.unusedVariables false
set_option linter.unusedSimpArgs false
/-! ### laws_eqRunS: function 21 -/
def laws_eqRunS.l0 : Nat → List (S57) → List (S57) → Int → Option (Bool)
  | 0, _, _, _ => none
  | k + 1, x0, x1, x5 => if x5 < (x0.length : Int) then (if 0 ≤ x5 then (if x5 < (x1.length : Int) then ((laws_eqRun.f ((rd_T57 x0 x5).f0) ((rd_T57 x0 x5).f1) ((rd_T57 x0 x5).f2) ((rd_T57 x1 x5).f0) ((rd_T57 x1 x5).f1) ((rd_T57 x1 x5).f2)).bind fun t22003 => (if t22003 = true then (laws_eqRunS.l0 k x0 x1 (wrap64 (x5 + 1))) else (some false))) else (none)) else (none)) else (some true)
def laws_eqRunS.f (k : Nat) (l0 : List (S57)) (l1 : List (S57)) : Option (Bool) := if (l0.length : Int) = (l1.length : Int) then (laws_eqRunS.l0 k l0 l1 0) else (some false)
theorem laws_eqRunS.mono_l : ∀ k, (∀ y0 y1 y2, LeO (laws_eqRunS.l0 k y0 y1 y2) (laws_eqRunS.l0 (k + 1) y0 y1 y2))
  | 0 => fun _ _ _ r h => by simp [laws_eqRunS.l0] at h
  | k + 1 => by
    have ih0 := laws_eqRunS.mono_l k
    · intro y0 y1 y2
      unfold laws_eqRunS.l0
      repeat' first
      | (with_reducible exact ih0 _ _ _)
      | (with_reducible exact LeO.refl _)
      | (with_reducible exact LeO.none _)
      | (with_reducible refine LeO.ite ?_ ?_)
      | (with_reducible refine LeO.bind ?_ (fun _ => ?_))
      | exact ih0 _ _ _
      | exact LeO.none _
      | refine LeO.ite ?_ ?_
      | refine LeO.bind ?_ (fun _ => ?_)
theorem laws_eqRunS.mono : ∀ a0 a1 k, LeO (laws_eqRunS.f k a0 a1) (laws_eqRunS.f (k + 1) a0 a1) := by
  intro a0 a1 k
  have ih0 := laws_eqRunS.mono_l k
  unfold laws_eqRunS.f
  repeat' first
      | (with_reducible exact ih0 _ _ _)
      | (with_reducible exact LeO.refl _)
      | (with_reducible exact LeO.none _)
      | (with_reducible refine LeO.ite ?_ ?_)
      | (with_reducible refine LeO.bind ?_ (fun _ => ?_))
      | exact ih0 _ _ _
      | exact LeO.none _
      | refine LeO.ite ?_ ?_
      | refine LeO.bind ?_ (fun _ => ?_)
def laws_eqRunS.T6 : Bool × List (List Nat × List Nat) := (true, [([], []), ([], []), ([0, 1], [0, 1]), ([2], [2]), ([], []), ([], []), ([4, 5], [4, 5]), ([6], [6]), ([3, 7], [3, 7]), ([8], [8])])
def laws_eqRunS.B6 : List Nat := [0, 0, 3, 7, 0, 0, 48, 112, 255, 511]
theorem laws_eqRunS.tab6 : rtab .any (opsOf Try.f21 6) = laws_eqRunS.T6 := by kernel_rfl
theorem laws_eqRunS.bits6 : waitsOk laws_eqRunS.T6.2 laws_eqRunS.B6 = true := by kernel_rfl
set_option maxHeartbeats 8000000 in
set_option maxRecDepth 100000 in
theorem laws_eqRunS.calls (k : Nat) (A0 : Option Addr) (c0 : Nat) (l0 : List (S57)) (A1 : Option Addr) (c1 : Nat) (l1 : List (S57)) (r : Bool) (w : World) (hr0 : Kd.C k57 w A0 l0.length l0) (hc0 : l0.length ≤ c0) (hr1 : Kd.C k57 w A1 l1.length l1) (hc1 : l1.length ≤ c1) (h : laws_eqRunS.f k l0 l1 = some r) :
    Calls Try.prog 21 #[.slice A0 l0.length c0, .slice A1 l1.length c1] w fun e w' => e = .returned (.bool r) ∧ Below w.heap.size w w' := by
  have hu57 := Try.underlying57
  have HR0 := Aside0.mk hr0
  have HC0 := Aside0.mk hc0
  clear hr0 hc0
  have HR1 := Aside0.mk hr1
  have HC1 := Aside0.mk hc1
  clear hr1 hc1
  have HB := Aside0.mk (Below.refl w.heap.size w)
  have H : (if (l0.length : Int) = (l1.length : Int) then (laws_eqRunS.l0 k l0 l1 0) else (some false)) = some r := h
  clear h
  by_cases c3 : (l0.length : Int) = (l1.length : Int)
  · rw [if_pos c3] at H
    have c3b0 : ((l0.length : Int) == (l1.length : Int)) = true := beq_iff_eq.mpr c3
    have c3b1 : ((l0.length : Int) != (l1.length : Int)) = false := bne_eq_false_iff_eq.mpr c3
    have c3b2 : (l0.length == l1.length) = true := by first | simpa using c3 | (simp at c3 ⊢; omega)
    clear c3
    have H' := Aside0.mk H
    clear H
    go_enter Try.func21, Try.ntmps21
    go_wp2
    go_loopg [5] k (fun kq v5 w' => ∃ (x5_1 : Int), v5 = .int .i64 x5_1 ∧ Aside0 (laws_eqRunS.l0 kq l0 l1 x5_1 = some r) ∧ Aside0 (kq ≤ k) ∧ Aside0 (Below w.heap.size w w'))
    case atStart => exact ⟨(0), (by first | rfl | (simp; done) | (simp [*]; done)), H', ⟨Nat.le_refl _⟩, ⟨by repeat (first | (with_reducible first | exact HB.out | apply below_alloc | apply pw_below_drewN | apply below_drew1) | exact HB.out)⟩⟩
    case round =>
      clear H'
      try clear c1
      try clear c2
      try clear p2
      try clear c3
      try clear c3b0
      try clear c3b1
      try clear c3b2
      obtain ⟨x5_1, rfl, HA, HK1, HB⟩ := hrel
      cases gk with
      | zero => exact absurd HA.out (by simp [laws_eqRunS.l0])
      | succ k1 =>
        have H := HA.out
        clear HA
        simp only [laws_eqRunS.l0] at H
        by_cases c4 : x5_1 < (l0.length : Int)
        · rw [if_pos c4] at H
          have c4b0 : decide (x5_1 < (l0.length : Int)) = true := decide_eq_true c4
          clear c4
          by_cases c5 : 0 ≤ x5_1
          · rw [if_pos c5] at H
            have c5b0 : decide (0 ≤ x5_1) = true := decide_eq_true c5
            clear c5
            by_cases c6 : x5_1 < (l1.length : Int)
            · rw [if_pos c6] at H
              have c6b0 : decide (x5_1 < (l1.length : Int)) = true := decide_eq_true c6
              clear c6
              replace H := Option.bind_eq_some_iff.mp H
              obtain ⟨t22003, A70, H⟩ := H
              replace H : (if t22003 = true then (laws_eqRunS.l0 k1 l0 l1 (wrap64 (x5_1 + 1))) else (some false)) = some r := H
              have A7 := Aside0.mk A70
              clear A70
              by_cases c8 : t22003 = true
              · subst c8
                have H1 : (laws_eqRunS.l0 k1 l0 l1 (wrap64 (x5_1 + 1))) = some r := by rw [if_pos rfl] at H; exact H
                clear H
                have H := H1
                clear H1
                have H' := Aside0.mk H
                clear H
                try go_wp2
                have n0_ := Aside0.mk (below_drew1 HB.out)
                clear HB
                have HB := n0_
                clear n0_
                have p22001 : 0 ≤ (x5_1 : Int) := of_decide_eq_true (by first | (with_reducible assumption) | assumption)
                have q22001 : x5_1 < (l0.length : Int) := of_decide_eq_true (by first | (with_reducible assumption) | assumption)
                obtain ⟨ad22001, e22001, hx22001_0, hx22001_1, hx22001_2⟩ := at_T57 HR0.out x5_1 p22001 q22001
                have hw22001_2 := hx22001_2
                have hw22001_1 := hx22001_1
                have hw22001_0 := hx22001_0
                cases e22001
                replace hx22001_0 := (HB.out.cell (World.block_lt_of_cell? w _ hx22001_0)).trans hx22001_0
                replace hx22001_1 := (HB.out.cell (World.block_lt_of_cell? w _ hx22001_1)).trans hx22001_1
                replace hx22001_2 := (HB.out.cell (World.block_lt_of_cell? w _ hx22001_2)).trans hx22001_2
                replace p22001 := eq_true p22001
                replace q22001 := eq_true q22001
                have p22002 : 0 ≤ (x5_1 : Int) := of_decide_eq_true (by first | (with_reducible assumption) | assumption)
                have q22002 : x5_1 < (l1.length : Int) := of_decide_eq_true (by first | (with_reducible assumption) | assumption)
                obtain ⟨ad22002, e22002, hx22002_0, hx22002_1, hx22002_2⟩ := at_T57 HR1.out x5_1 p22002 q22002
                have hw22002_2 := hx22002_2
                have hw22002_1 := hx22002_1
                have hw22002_0 := hx22002_0
                cases e22002
                replace hx22002_0 := (HB.out.cell (World.block_lt_of_cell? w _ hx22002_0)).trans hx22002_0
                replace hx22002_1 := (HB.out.cell (World.block_lt_of_cell? w _ hx22002_1)).trans hx22002_1
                replace hx22002_2 := (HB.out.cell (World.block_lt_of_cell? w _ hx22002_2)).trans hx22002_2
                replace p22002 := eq_true p22002
                replace q22002 := eq_true q22002
                refine start_ (n := 10) (S := fun w' => w'.cell? (ad22001.add ((x5_1).toNat * 3)) = some (.int .i64 ((rd_T57 l0 x5_1).f0)) ∧ w'.cell? ⟨(ad22001.add ((x5_1).toNat * 3)).block, (ad22001.add ((x5_1).toNat * 3)).off + 1, none⟩ = some (.int .i64 ((rd_T57 l0 x5_1).f1)) ∧ w'.cell? ⟨(ad22001.add ((x5_1).toNat * 3)).block, (ad22001.add ((x5_1).toNat * 3)).off + 2, none⟩ = some (.int .i64 ((rd_T57 l0 x5_1).f2)) ∧ w'.cell? (ad22002.add ((x5_1).toNat * 3)) = some (.int .i64 ((rd_T57 l1 x5_1).f0)) ∧ w'.cell? ⟨(ad22002.add ((x5_1).toNat * 3)).block, (ad22002.add ((x5_1).toNat * 3)).off + 1, none⟩ = some (.int .i64 ((rd_T57 l1 x5_1).f1)) ∧ w'.cell? ⟨(ad22002.add ((x5_1).toNat * 3)).block, (ad22002.add ((x5_1).toNat * 3)).off + 2, none⟩ = some (.int .i64 ((rd_T57 l1 x5_1).f2))) (ds := []) #[false, false, false, false, false, false, false, false, false, false] (by kernel_rfl) rfl rfl ⟨((HB.out.cell (World.block_lt_of_cell? w _ hw22001_0)).trans hw22001_0), ((HB.out.cell (World.block_lt_of_cell? w _ hw22001_1)).trans hw22001_1), ((HB.out.cell (World.block_lt_of_cell? w _ hw22001_2)).trans hw22001_2), ((HB.out.cell (World.block_lt_of_cell? w _ hw22002_0)).trans hw22002_0), ((HB.out.cell (World.block_lt_of_cell? w _ hw22002_1)).trans hw22002_1), ((HB.out.cell (World.block_lt_of_cell? w _ hw22002_2)).trans hw22002_2)⟩ (fun hHeld => ?_); refine with_tabW laws_eqRunS.tab6 laws_eqRunS.bits6 (fun HT_ HW_ => ?_)
                generalize wr.drew = w9 at HB hx22001_0 hx22001_1 hx22001_2 hx22002_0 hx22002_1 hx22002_2 hHeld ⊢
                refine pure_ (i := 0) (N := some 17) (v := ?_) (a' := ?_) #[true, false, false, false, false, false, false, false, false, false] rfl rfl (any_of HT_.out (by kernel_rfl)) (fun _ _ _ h => h) (Or.inl ⟨by rfl, ?_⟩) ?_ ?_
                rotate_left
                · intro w'
                  go_simp
                  with_reducible rfl
                rotate_left
                · simp only [Act.put, List.setIfInBounds_toArray, List.set_cons_zero, List.set_cons_succ, i64_w, i32_w]
                  rfl
                refine pure_ (i := 1) (N := some 18) (v := ?_) (a' := ?_) #[true, true, false, false, false, false, false, false, false, false] rfl rfl (any_of HT_.out (by kernel_rfl)) (fun _ _ _ h => h) (Or.inl ⟨by rfl, ?_⟩) ?_ ?_
                rotate_left
                · intro w'
                  go_simp
                  with_reducible rfl
                rotate_left
                · simp only [Act.put, List.setIfInBounds_toArray, List.set_cons_zero, List.set_cons_succ, i64_w, i32_w]
                  rfl
                refine pure_ (i := 2) (N := some 19) (v := ?_) (a' := ?_) #[true, true, true, false, false, false, false, false, false, false] rfl rfl (any_of HT_.out (by kernel_rfl)) (fun _ _ _ h => h) (Or.inl ⟨by rfl, ?_⟩) ?_ ?_
                rotate_left
                · intro w'
                  go_simp
                  with_reducible rfl
                rotate_left
                · simp only [Act.put, List.setIfInBounds_toArray, List.set_cons_zero, List.set_cons_succ, i64_w, i32_w]
                  rfl
                refine pure_ (i := 4) (N := some 21) (v := ?_) (a' := ?_) #[true, true, true, false, true, false, false, false, false, false] rfl rfl (any_of HT_.out (by kernel_rfl)) (fun _ _ _ h => h) (Or.inl ⟨by rfl, ?_⟩) ?_ ?_
                rotate_left
                · intro w'
                  go_simp
                  with_reducible rfl
                rotate_left
                · simp only [Act.put, List.setIfInBounds_toArray, List.set_cons_zero, List.set_cons_succ, i64_w, i32_w]
                  rfl
                refine pure_ (i := 5) (N := some 22) (v := ?_) (a' := ?_) #[true, true, true, false, true, true, false, false, false, false] rfl rfl (any_of HT_.out (by kernel_rfl)) (fun _ _ _ h => h) (Or.inl ⟨by rfl, ?_⟩) ?_ ?_
                rotate_left
                · intro w'
                  go_simp
                  with_reducible rfl
                rotate_left
                · simp only [Act.put, List.setIfInBounds_toArray, List.set_cons_zero, List.set_cons_succ, i64_w, i32_w]
                  rfl
                refine pure_ (i := 6) (N := some 23) (v := ?_) (a' := ?_) #[true, true, true, false, true, true, true, false, false, false] rfl rfl (any_of HT_.out (by kernel_rfl)) (fun _ _ _ h => h) (Or.inl ⟨by rfl, ?_⟩) ?_ ?_
                rotate_left
                · intro w'
                  go_simp
                  with_reducible rfl
                rotate_left
                · simp only [Act.put, List.setIfInBounds_toArray, List.set_cons_zero, List.set_cons_succ, i64_w, i32_w]
                  rfl
                refine take_ (i := 3) (N := some 20) (v := ?_) (a' := ?_) #[true, true, true, true, true, true, true, false, false, false] rfl rfl (take_ofW HT_.out HW_.out (by kernel_rfl)) (fun _ _ _ h => h) (Or.inl ⟨by rfl, ?_⟩) hHeld ?_ ?_
                rotate_left
                · rintro w' ⟨s0, s1, s2, s3, s4, s5⟩
                  go_simp
                  with_reducible rfl
                rotate_left
                · simp only [Act.put, List.setIfInBounds_toArray, List.set_cons_zero, List.set_cons_succ, i64_w, i32_w]
                  rfl
                refine take_ (i := 7) (N := some 24) (v := ?_) (a' := ?_) #[true, true, true, true, true, true, true, true, false, false] rfl rfl (take_ofW HT_.out HW_.out (by kernel_rfl)) (fun _ _ _ h => h) (Or.inl ⟨by rfl, ?_⟩) hHeld ?_ ?_
                rotate_left
                · rintro w' ⟨s0, s1, s2, s3, s4, s5⟩
                  go_simp
                  with_reducible rfl
                rotate_left
                · simp only [Act.put, List.setIfInBounds_toArray, List.set_cons_zero, List.set_cons_succ, i64_w, i32_w]
                  rfl
                refine one_ (i := 8) (N := some 25) #[true, true, true, true, true, true, true, true, true, false] rfl rfl (one_of HT_.out (by kernel_rfl)) (by decide) (fun K hK => ?_)
                refine goes_ Try.func56 (by kernel_rfl) rfl #[.agg #[.int .i64 ((rd_T57 l0 x5_1).f0), .int .i64 ((rd_T57 l0 x5_1).f1), .int .i64 ((rd_T57 l0 x5_1).f2)], .agg #[.int .i64 ((rd_T57 l1 x5_1).f0), .int .i64 ((rd_T57 l1 x5_1).f1), .int .i64 ((rd_T57 l1 x5_1).f2)]] (by rfl) rfl rfl (by (try simp only [List.map_toArray, List.map_cons, List.map_nil]); first | done | rfl | (simp only [List.length_drop, List.length_take]; rfl)) ?_
                with_reducible refine (laws_eqRun.calls ((rd_T57 l0 x5_1).f0) ((rd_T57 l0 x5_1).f1) ((rd_T57 l0 x5_1).f2) ((rd_T57 l1 x5_1).f0) ((rd_T57 l1 x5_1).f1) ((rd_T57 l1 x5_1).f2) true _ A7.out).mono ?_
                rintro e w10 ⟨rfl, hb⟩
                refine ⟨_, rfl, ?_⟩
                have n0_ := Aside0.mk (below_step (by repeat (first | (with_reducible first | exact HB.out | apply below_alloc | apply pw_below_drewN | apply below_drew1) | exact HB.out)) hb)
                clear HB
                have HB := n0_
                clear n0_
                (try clear hb)
                (try clear hb2)
                (try clear hk)
                (try clear hi)
                refine hK.out _ _ ⟨((HB.out.cell (World.block_lt_of_cell? w _ hw22001_0)).trans hw22001_0), ((HB.out.cell (World.block_lt_of_cell? w _ hw22001_1)).trans hw22001_1), ((HB.out.cell (World.block_lt_of_cell? w _ hw22001_2)).trans hw22001_2), ((HB.out.cell (World.block_lt_of_cell? w _ hw22002_0)).trans hw22002_0), ((HB.out.cell (World.block_lt_of_cell? w _ hw22002_1)).trans hw22002_1), ((HB.out.cell (World.block_lt_of_cell? w _ hw22002_2)).trans hw22002_2)⟩ (fun hHeld => ?_)
                clear hK K
                refine norm_ (a' := ?_) ?_ ?_
                rotate_left
                · show Act.put _ (some 25) _ = _
                  simp only [Act.put, List.setIfInBounds_toArray, List.set_cons_zero, List.set_cons_succ, i64_w, i32_w]
                  rfl
                refine pure_ (i := 9) (N := some 26) (v := ?_) (a' := ?_) #[true, true, true, true, true, true, true, true, true, true] rfl rfl (any_of HT_.out (by kernel_rfl)) (fun _ _ _ h => h) (Or.inl ⟨by rfl, ?_⟩) ?_ ?_
                rotate_left
                · intro w'
                  go_simp
                  with_reducible rfl
                rotate_left
                · simp only [Act.put, List.setIfInBounds_toArray, List.set_cons_zero, List.set_cons_succ, i64_w, i32_w]
                  rfl
                refine done_ (done_of HT_.out (by kernel_rfl)) ?_
                try go_wp2
                go_roundg k1
                case measure => have := HK1.out; omega
                case rel => exact ⟨(wrap64 (x5_1 + 1)), (by first | rfl | (simp; done) | (simp [*]; done)), H', ⟨by have := HK1.out; omega⟩, ⟨by repeat (first | (with_reducible first | exact HB.out | apply below_alloc | apply pw_below_drewN | apply below_drew1) | exact HB.out)⟩⟩
              · replace c8 := Bool.eq_false_iff.mpr c8
                subst c8
                have H1 : (some false) = some r := by rw [if_neg (show ¬ (false = true) by decide)] at H; exact H
                clear H
                have H := H1
                clear H1
                obtain rfl := Option.some.inj H
                try go_wp2
                have n0_ := Aside0.mk (below_drew1 HB.out)
                clear HB
                have HB := n0_
                clear n0_
                have p22001 : 0 ≤ (x5_1 : Int) := of_decide_eq_true (by first | (with_reducible assumption) | assumption)
                have q22001 : x5_1 < (l0.length : Int) := of_decide_eq_true (by first | (with_reducible assumption) | assumption)
                obtain ⟨ad22001, e22001, hx22001_0, hx22001_1, hx22001_2⟩ := at_T57 HR0.out x5_1 p22001 q22001
                have hw22001_2 := hx22001_2
                have hw22001_1 := hx22001_1
                have hw22001_0 := hx22001_0
                cases e22001
                replace hx22001_0 := (HB.out.cell (World.block_lt_of_cell? w _ hx22001_0)).trans hx22001_0
                replace hx22001_1 := (HB.out.cell (World.block_lt_of_cell? w _ hx22001_1)).trans hx22001_1
                replace hx22001_2 := (HB.out.cell (World.block_lt_of_cell? w _ hx22001_2)).trans hx22001_2
                replace p22001 := eq_true p22001
                replace q22001 := eq_true q22001
                have p22002 : 0 ≤ (x5_1 : Int) := of_decide_eq_true (by first | (with_reducible assumption) | assumption)
                have q22002 : x5_1 < (l1.length : Int) := of_decide_eq_true (by first | (with_reducible assumption) | assumption)
                obtain ⟨ad22002, e22002, hx22002_0, hx22002_1, hx22002_2⟩ := at_T57 HR1.out x5_1 p22002 q22002
                have hw22002_2 := hx22002_2
                have hw22002_1 := hx22002_1
                have hw22002_0 := hx22002_0
                cases e22002
                replace hx22002_0 := (HB.out.cell (World.block_lt_of_cell? w _ hx22002_0)).trans hx22002_0
                replace hx22002_1 := (HB.out.cell (World.block_lt_of_cell? w _ hx22002_1)).trans hx22002_1
                replace hx22002_2 := (HB.out.cell (World.block_lt_of_cell? w _ hx22002_2)).trans hx22002_2
                replace p22002 := eq_true p22002
                replace q22002 := eq_true q22002
                refine start_ (n := 10) (S := fun w' => w'.cell? (ad22001.add ((x5_1).toNat * 3)) = some (.int .i64 ((rd_T57 l0 x5_1).f0)) ∧ w'.cell? ⟨(ad22001.add ((x5_1).toNat * 3)).block, (ad22001.add ((x5_1).toNat * 3)).off + 1, none⟩ = some (.int .i64 ((rd_T57 l0 x5_1).f1)) ∧ w'.cell? ⟨(ad22001.add ((x5_1).toNat * 3)).block, (ad22001.add ((x5_1).toNat * 3)).off + 2, none⟩ = some (.int .i64 ((rd_T57 l0 x5_1).f2)) ∧ w'.cell? (ad22002.add ((x5_1).toNat * 3)) = some (.int .i64 ((rd_T57 l1 x5_1).f0)) ∧ w'.cell? ⟨(ad22002.add ((x5_1).toNat * 3)).block, (ad22002.add ((x5_1).toNat * 3)).off + 1, none⟩ = some (.int .i64 ((rd_T57 l1 x5_1).f1)) ∧ w'.cell? ⟨(ad22002.add ((x5_1).toNat * 3)).block, (ad22002.add ((x5_1).toNat * 3)).off + 2, none⟩ = some (.int .i64 ((rd_T57 l1 x5_1).f2))) (ds := []) #[false, false, false, false, false, false, false, false, false, false] (by kernel_rfl) rfl rfl ⟨((HB.out.cell (World.block_lt_of_cell? w _ hw22001_0)).trans hw22001_0), ((HB.out.cell (World.block_lt_of_cell? w _ hw22001_1)).trans hw22001_1), ((HB.out.cell (World.block_lt_of_cell? w _ hw22001_2)).trans hw22001_2), ((HB.out.cell (World.block_lt_of_cell? w _ hw22002_0)).trans hw22002_0), ((HB.out.cell (World.block_lt_of_cell? w _ hw22002_1)).trans hw22002_1), ((HB.out.cell (World.block_lt_of_cell? w _ hw22002_2)).trans hw22002_2)⟩ (fun hHeld => ?_); refine with_tabW laws_eqRunS.tab6 laws_eqRunS.bits6 (fun HT_ HW_ => ?_)
                generalize wr.drew = w11 at HB hx22001_0 hx22001_1 hx22001_2 hx22002_0 hx22002_1 hx22002_2 hHeld ⊢
                refine pure_ (i := 0) (N := some 17) (v := ?_) (a' := ?_) #[true, false, false, false, false, false, false, false, false, false] rfl rfl (any_of HT_.out (by kernel_rfl)) (fun _ _ _ h => h) (Or.inl ⟨by rfl, ?_⟩) ?_ ?_
                rotate_left
                · intro w'
                  go_simp
                  with_reducible rfl
                rotate_left
                · simp only [Act.put, List.setIfInBounds_toArray, List.set_cons_zero, List.set_cons_succ, i64_w, i32_w]
                  rfl
                refine pure_ (i := 1) (N := some 18) (v := ?_) (a' := ?_) #[true, true, false, false, false, false, false, false, false, false] rfl rfl (any_of HT_.out (by kernel_rfl)) (fun _ _ _ h => h) (Or.inl ⟨by rfl, ?_⟩) ?_ ?_
                rotate_left
                · intro w'
                  go_simp
                  with_reducible rfl
                rotate_left
                · simp only [Act.put, List.setIfInBounds_toArray, List.set_cons_zero, List.set_cons_succ, i64_w, i32_w]
                  rfl
                refine pure_ (i := 2) (N := some 19) (v := ?_) (a' := ?_) #[true, true, true, false, false, false, false, false, false, false] rfl rfl (any_of HT_.out (by kernel_rfl)) (fun _ _ _ h => h) (Or.inl ⟨by rfl, ?_⟩) ?_ ?_
                rotate_left
                · intro w'
                  go_simp
                  with_reducible rfl
                rotate_left
                · simp only [Act.put, List.setIfInBounds_toArray, List.set_cons_zero, List.set_cons_succ, i64_w, i32_w]
                  rfl
                refine pure_ (i := 4) (N := some 21) (v := ?_) (a' := ?_) #[true, true, true, false, true, false, false, false, false, false] rfl rfl (any_of HT_.out (by kernel_rfl)) (fun _ _ _ h => h) (Or.inl ⟨by rfl, ?_⟩) ?_ ?_
                rotate_left
                · intro w'
                  go_simp
                  with_reducible rfl
                rotate_left
                · simp only [Act.put, List.setIfInBounds_toArray, List.set_cons_zero, List.set_cons_succ, i64_w, i32_w]
                  rfl
                refine pure_ (i := 5) (N := some 22) (v := ?_) (a' := ?_) #[true, true, true, false, true, true, false, false, false, false] rfl rfl (any_of HT_.out (by kernel_rfl)) (fun _ _ _ h => h) (Or.inl ⟨by rfl, ?_⟩) ?_ ?_
                rotate_left
                · intro w'
                  go_simp
                  with_reducible rfl
                rotate_left
                · simp only [Act.put, List.setIfInBounds_toArray, List.set_cons_zero, List.set_cons_succ, i64_w, i32_w]
                  rfl
                refine pure_ (i := 6) (N := some 23) (v := ?_) (a' := ?_) #[true, true, true, false, true, true, true, false, false, false] rfl rfl (any_of HT_.out (by kernel_rfl)) (fun _ _ _ h => h) (Or.inl ⟨by rfl, ?_⟩) ?_ ?_
                rotate_left
                · intro w'
                  go_simp
                  with_reducible rfl
                rotate_left
                · simp only [Act.put, List.setIfInBounds_toArray, List.set_cons_zero, List.set_cons_succ, i64_w, i32_w]
                  rfl
                refine take_ (i := 3) (N := some 20) (v := ?_) (a' := ?_) #[true, true, true, true, true, true, true, false, false, false] rfl rfl (take_ofW HT_.out HW_.out (by kernel_rfl)) (fun _ _ _ h => h) (Or.inl ⟨by rfl, ?_⟩) hHeld ?_ ?_
                rotate_left
                · rintro w' ⟨s0, s1, s2, s3, s4, s5⟩
                  go_simp
                  with_reducible rfl
                rotate_left
                · simp only [Act.put, List.setIfInBounds_toArray, List.set_cons_zero, List.set_cons_succ, i64_w, i32_w]
                  rfl
                refine take_ (i := 7) (N := some 24) (v := ?_) (a' := ?_) #[true, true, true, true, true, true, true, true, false, false] rfl rfl (take_ofW HT_.out HW_.out (by kernel_rfl)) (fun _ _ _ h => h) (Or.inl ⟨by rfl, ?_⟩) hHeld ?_ ?_
                rotate_left
                · rintro w' ⟨s0, s1, s2, s3, s4, s5⟩
                  go_simp
                  with_reducible rfl
                rotate_left
                · simp only [Act.put, List.setIfInBounds_toArray, List.set_cons_zero, List.set_cons_succ, i64_w, i32_w]
                  rfl
                refine one_ (i := 8) (N := some 25) #[true, true, true, true, true, true, true, true, true, false] rfl rfl (one_of HT_.out (by kernel_rfl)) (by decide) (fun K hK => ?_)
                refine goes_ Try.func56 (by kernel_rfl) rfl #[.agg #[.int .i64 ((rd_T57 l0 x5_1).f0), .int .i64 ((rd_T57 l0 x5_1).f1), .int .i64 ((rd_T57 l0 x5_1).f2)], .agg #[.int .i64 ((rd_T57 l1 x5_1).f0), .int .i64 ((rd_T57 l1 x5_1).f1), .int .i64 ((rd_T57 l1 x5_1).f2)]] (by rfl) rfl rfl (by (try simp only [List.map_toArray, List.map_cons, List.map_nil]); first | done | rfl | (simp only [List.length_drop, List.length_take]; rfl)) ?_
                with_reducible refine (laws_eqRun.calls ((rd_T57 l0 x5_1).f0) ((rd_T57 l0 x5_1).f1) ((rd_T57 l0 x5_1).f2) ((rd_T57 l1 x5_1).f0) ((rd_T57 l1 x5_1).f1) ((rd_T57 l1 x5_1).f2) false _ A7.out).mono ?_
                rintro e w12 ⟨rfl, hb⟩
                refine ⟨_, rfl, ?_⟩
                have n0_ := Aside0.mk (below_step (by repeat (first | (with_reducible first | exact HB.out | apply below_alloc | apply pw_below_drewN | apply below_drew1) | exact HB.out)) hb)
                clear HB
                have HB := n0_
                clear n0_
                (try clear hb)
                (try clear hb2)
                (try clear hk)
                (try clear hi)
                refine hK.out _ _ ⟨((HB.out.cell (World.block_lt_of_cell? w _ hw22001_0)).trans hw22001_0), ((HB.out.cell (World.block_lt_of_cell? w _ hw22001_1)).trans hw22001_1), ((HB.out.cell (World.block_lt_of_cell? w _ hw22001_2)).trans hw22001_2), ((HB.out.cell (World.block_lt_of_cell? w _ hw22002_0)).trans hw22002_0), ((HB.out.cell (World.block_lt_of_cell? w _ hw22002_1)).trans hw22002_1), ((HB.out.cell (World.block_lt_of_cell? w _ hw22002_2)).trans hw22002_2)⟩ (fun hHeld => ?_)
                clear hK K
                refine norm_ (a' := ?_) ?_ ?_
                rotate_left
                · show Act.put _ (some 25) _ = _
                  simp only [Act.put, List.setIfInBounds_toArray, List.set_cons_zero, List.set_cons_succ, i64_w, i32_w]
                  rfl
                refine pure_ (i := 9) (N := some 26) (v := ?_) (a' := ?_) #[true, true, true, true, true, true, true, true, true, true] rfl rfl (any_of HT_.out (by kernel_rfl)) (fun _ _ _ h => h) (Or.inl ⟨by rfl, ?_⟩) ?_ ?_
                rotate_left
                · intro w'
                  go_simp
                  with_reducible rfl
                rotate_left
                · simp only [Act.put, List.setIfInBounds_toArray, List.set_cons_zero, List.set_cons_succ, i64_w, i32_w]
                  rfl
                refine done_ (done_of HT_.out (by kernel_rfl)) ?_
                try go_wp2
                go_ret
                exact ⟨by first | rfl | (simp [errW_none, errW_some] <;> rfl) | (simp [*, errW_none, errW_some] <;> rfl), by repeat (first | (with_reducible first | exact HB.out | apply below_alloc | apply pw_below_drewN | apply below_drew1) | exact HB.out)⟩
            · rw [if_neg c6] at H
              exact absurd H (by simp)
          · rw [if_neg c5] at H
            exact absurd H (by simp)
        · rw [if_neg c4] at H
          have c4b0 : decide (x5_1 < (l0.length : Int)) = false := decide_eq_false c4
          clear c4
          obtain rfl := Option.some.inj H
          go_wp2
          go_ret
          exact ⟨by first | rfl | (simp [errW_none, errW_some] <;> rfl) | (simp [*, errW_none, errW_some] <;> rfl), by repeat (first | (with_reducible first | exact HB.out | apply below_alloc | apply pw_below_drewN | apply below_drew1) | exact HB.out)⟩
  · rw [if_neg c3] at H
    have c3b0 : ((l0.length : Int) == (l1.length : Int)) = false := beq_eq_false_iff_ne.mpr c3
    have c3b1 : ((l0.length : Int) != (l1.length : Int)) = true := bne_iff_ne.mpr c3
    have c3b2 : (l0.length == l1.length) = false := by first | simpa using c3 | (simp at c3 ⊢; omega)
    obtain rfl := Option.some.inj H
    go_enter Try.func21, Try.ntmps21
    go_wp2
    go_ret
    exact ⟨by first | rfl | (simp [errW_none, errW_some] <;> rfl) | (simp [*, errW_none, errW_some] <;> rfl), by repeat (first | (with_reducible first | exact HB.out | apply below_alloc | apply pw_below_drewN | apply below_drew1) | exact HB.out)⟩

end Go.Proofs.Ytfgeickfheogoaa.Q

namespace Go.Proofs.Ytfgeickfheogoaa.Q
open Go.RowKit Go.Proofs.YtfgeickfheogoaaW.PrintWords Go.Proofs.YtfgeickfheogoaaW.PrintLast Go.Proofs.YtfgeickfheogoaaW.PrintMore
attribute [local go_sem] max2_int min2_int max_two min_two max_three min_three max_four min_four
set_option linter.unusedVariables false
set_option linter.unusedSimpArgs false
/-! ### laws_markRunS: function 29 -/
def laws_markRunS.l0 : Nat → List (S57) → Int → Int → Option (Int × (List (S57)))
  | 0, _, _, _ => none
  | k + 1, x0, x1, x5 => if x5 < (x0.length : Int) then (if 0 ≤ x5 then ((some (x0.set (x5 : Int).toNat (⟨x1, (rd_T57 x0 x5).f1, (rd_T57 x0 x5).f2⟩ : S57) : List (S57))).bind fun y30001 => ((some (y30001.set (x5 : Int).toNat (⟨(rd_T57 y30001 x5).f0, wrap64 (x1 + 1), (rd_T57 y30001 x5).f2⟩ : S57) : List (S57))).bind fun y30002 => (laws_markRunS.l0 k (y30002.set (x5 : Int).toNat (⟨(rd_T57 y30002 x5).f0, (rd_T57 y30002 x5).f1, wrap64 ((wrap64 (x1 + 1)) + 1)⟩ : S57)) (wrap64 ((wrap64 ((wrap64 (x1 + 1)) + 1)) + 1)) (wrap64 (x5 + 1))))) else (none)) else (some (x1, x0))
def laws_markRunS.f (k : Nat) (l0 : List (S57)) (a1 : Int) : Option (Int × (List (S57))) := laws_markRunS.l0 k l0 a1 0
theorem laws_markRunS.mono_l : ∀ k, (∀ y0 y1 y2, LeO (laws_markRunS.l0 k y0 y1 y2) (laws_markRunS.l0 (k + 1) y0 y1 y2))
  | 0 => fun _ _ _ r h => by simp [laws_markRunS.l0] at h
  | k + 1 => by
    have ih0 := laws_markRunS.mono_l k
    · intro y0 y1 y2
      unfold laws_markRunS.l0
      repeat' first
      | (with_reducible exact ih0 _ _ _)
      | (with_reducible exact LeO.refl _)
      | (with_reducible exact LeO.none _)
      | (with_reducible refine LeO.ite ?_ ?_)
      | (with_reducible refine LeO.bind ?_ (fun _ => ?_))
      | exact ih0 _ _ _
      | exact LeO.none _
      | refine LeO.ite ?_ ?_
      | refine LeO.bind ?_ (fun _ => ?_)
theorem laws_markRunS.mono : ∀ a0 a1 k, LeO (laws_markRunS.f k a0 a1) (laws_markRunS.f (k + 1) a0 a1) := by
  intro a0 a1 k
  have ih0 := laws_markRunS.mono_l k
  unfold laws_markRunS.f
  repeat' first
      | (with_reducible exact ih0 _ _ _)
      | (with_reducible exact LeO.refl _)
      | (with_reducible exact LeO.none _)
      | (with_reducible refine LeO.ite ?_ ?_)
      | (with_reducible refine LeO.bind ?_ (fun _ => ?_))
      | exact ih0 _ _ _
      | exact LeO.none _
      | refine LeO.ite ?_ ?_
      | refine LeO.bind ?_ (fun _ => ?_)
set_option maxHeartbeats 8000000 in
set_option maxRecDepth 100000 in
theorem laws_markRunS.calls (k : Nat) (P0_ : Nat → Prop) (u9000_ : Value) (l0 : List (S57)) (a1 : Int) (r1 : Int) (r2 : List (S57)) (w0 w : World) (hB : Below w0.heap.size w0 w) (ho0 : Kd.R k57 57 w w0.heap.size P0_ u9000_ l0) (h : laws_markRunS.f k l0 a1 = some (r1, r2)) :
    Calls Try.prog 29 #[u9000_, .int .i64 a1] w fun e w' => e = .returned (.int .i64 r1) ∧ Kd.R k57 57 w' w0.heap.size (fun k_ => (P0_ k_ ∨ w.heap.size ≤ k_)) u9000_ r2 ∧ Below w0.heap.size w0 w' ∧ Kept w w' (fun k_ => P0_ k_) := by
  have HO0 := Aside0.mk (show Kd.R k57 57 w w0.heap.size (fun k_ => (P0_ k_ ∨ w.heap.size ≤ k_)) u9000_ l0 from Kd.R_mono ho0 (fun k_ hk => (.inl hk)))
  have HK := Aside0.mk (Kept.refl w (fun k_ => P0_ k_))
  have HW0 := Aside0.mk hB.size
  have HB := Aside0.mk hB
  clear hB
  have H : (laws_markRunS.l0 k l0 a1 0) = some (r1, r2) := h
  clear h
  have H' := Aside0.mk H
  clear H
  go_enter Try.func29, Try.ntmps29
  go_wp2
  go_loopg [1, 5] k (fun kq v1 v5 w' => ∃ (x0_1 : List (S57)) (x1_1 : Int) (x5_1 : Int), v1 = .int .i64 x1_1 ∧ v5 = .int .i64 x5_1 ∧ Aside0 (laws_markRunS.l0 kq x0_1 x1_1 x5_1 = some (r1, r2)) ∧ Aside0 (kq ≤ k) ∧ Aside0 (Kd.R k57 57 w' w0.heap.size (fun k_ => (P0_ k_ ∨ w.heap.size ≤ k_)) u9000_ x0_1) ∧ Aside0 (Kept w w' (fun k_ => P0_ k_)) ∧ Aside0 (Below w0.heap.size w0 w'))
  case atStart => exact ⟨(l0), (a1), (0), (by first | rfl | (simp; done) | (simp [*]; done)), (by first | rfl | (simp; done) | (simp [*]; done)), H', ⟨Nat.le_refl _⟩, ⟨by (with_reducible repeat (first | apply Kd.R_alloc | apply Kd.R_drewN | apply Kd.R_drew)); exact HO0.out⟩, ⟨by repeat (first | (with_reducible first | exact HK.out | apply Kept.alloc | apply Kept.drewN | apply Kept.drew) | exact HK.out)⟩, ⟨by repeat (first | (with_reducible first | exact HB.out | apply below_alloc | apply pw_below_drewN | apply below_drew1) | exact HB.out)⟩⟩
  case round =>
    clear H'
    try clear c2
    try clear p2
    obtain ⟨x0_1, x1_1, x5_1, rfl, rfl, HA, HK1, HO_0, HK, HB⟩ := hrel
    cases gk with
    | zero => exact absurd HA.out (by simp [laws_markRunS.l0])
    | succ k1 =>
      have H := HA.out
      clear HA
      simp only [laws_markRunS.l0] at H
      by_cases c3 : x5_1 < (x0_1.length : Int)
      · rw [if_pos c3] at H
        have c3b0 : decide (x5_1 < (x0_1.length : Int)) = true := decide_eq_true c3
        clear c3
        by_cases c4 : 0 ≤ x5_1
        · rw [if_pos c4] at H
          have c4b0 : decide (0 ≤ x5_1) = true := decide_eq_true c4
          clear c4
          obtain ⟨y30001, hy30001⟩ : ∃ y_ : List (S57), y_ = (x0_1.set (x5_1 : Int).toNat (⟨x1_1, (rd_T57 x0_1 x5_1).f1, (rd_T57 x0_1 x5_1).f2⟩ : S57)) := ⟨_, rfl⟩
          replace H : ((some (y30001.set (x5_1 : Int).toNat (⟨(rd_T57 y30001 x5_1).f0, wrap64 (x1_1 + 1), (rd_T57 y30001 x5_1).f2⟩ : S57) : List (S57))).bind fun y30002 => (laws_markRunS.l0 k1 (y30002.set (x5_1 : Int).toNat (⟨(rd_T57 y30002 x5_1).f0, (rd_T57 y30002 x5_1).f1, wrap64 ((wrap64 (x1_1 + 1)) + 1)⟩ : S57)) (wrap64 ((wrap64 ((wrap64 (x1_1 + 1)) + 1)) + 1)) (wrap64 (x5_1 + 1)))) = some (r1, r2) := by first | (rw [hy30001]; with_reducible exact H) | (have H2_ := (Option.bind_some _ _).symm.trans H; rw [hy30001]; with_reducible exact H2_) | (have H2_ := (Option.bind_some _ _).symm.trans H; with_reducible exact H2_) | with_reducible exact H | (rw [hy30001]; exact H) | exact H
          have Ny30001 := Aside0.mk hy30001
          clear hy30001
          obtain ⟨y30002, hy30002⟩ : ∃ y_ : List (S57), y_ = (y30001.set (x5_1 : Int).toNat (⟨(rd_T57 y30001 x5_1).f0, wrap64 (x1_1 + 1), (rd_T57 y30001 x5_1).f2⟩ : S57)) := ⟨_, rfl⟩
          replace H : (laws_markRunS.l0 k1 (y30002.set (x5_1 : Int).toNat (⟨(rd_T57 y30002 x5_1).f0, (rd_T57 y30002 x5_1).f1, wrap64 ((wrap64 (x1_1 + 1)) + 1)⟩ : S57)) (wrap64 ((wrap64 ((wrap64 (x1_1 + 1)) + 1)) + 1)) (wrap64 (x5_1 + 1))) = some (r1, r2) := by first | (rw [hy30002]; with_reducible exact H) | (have H2_ := (Option.bind_some _ _).symm.trans H; rw [hy30002]; with_reducible exact H2_) | (have H2_ := (Option.bind_some _ _).symm.trans H; with_reducible exact H2_) | with_reducible exact H | (rw [hy30002]; exact H) | exact H
          have Ny30002 := Aside0.mk hy30002
          clear hy30002
          obtain ⟨y30003, hy30003⟩ : ∃ y_ : List (S57), y_ = (y30002.set (x5_1 : Int).toNat (⟨(rd_T57 y30002 x5_1).f0, (rd_T57 y30002 x5_1).f1, wrap64 ((wrap64 (x1_1 + 1)) + 1)⟩ : S57)) := ⟨_, rfl⟩
          replace H : (laws_markRunS.l0 k1 y30003 (wrap64 ((wrap64 ((wrap64 (x1_1 + 1)) + 1)) + 1)) (wrap64 (x5_1 + 1))) = some (r1, r2) := by first | (rw [hy30003]; with_reducible exact H) | (have H2_ := (Option.bind_some _ _).symm.trans H; rw [hy30003]; with_reducible exact H2_) | (have H2_ := (Option.bind_some _ _).symm.trans H; with_reducible exact H2_) | with_reducible exact H | (rw [hy30003]; exact H) | exact H
          have Ny30003 := Aside0.mk hy30003
          clear hy30003
          have H' := Aside0.mk H
          clear H
          obtain ⟨Ao8, co8, eo8⟩ := Kd.R_slice HO_0.out
          subst eo8
          have p5 : 0 ≤ (x5_1 : Int) := of_decide_eq_true (by first | (with_reducible assumption) | assumption)
          have q5 : (x5_1 : Int) < ((x0_1.length : Int) : Int) := of_decide_eq_true (by first | (with_reducible assumption) | assumption)
          obtain ⟨go5, co5, eo5, gb5, gl5, cl5, HG5⟩ := Kd.R_form HO_0.out (by omega)
          (first | cases eo5 | (injection eo5 with ea_ en_ ec_; (first | subst ea_ | (injection ea_ with ea_; subst ea_)); subst ec_; clear en_))
          have GB5 := Aside0.mk gb5
          have GG5 := Aside0.mk HG5
          clear gb5 gl5 HG5
          have HMgo5 := Aside0.mk (show (P0_ go5 ∨ w.heap.size ≤ go5) from (HO_0.out.1 _ rfl))
          obtain ⟨ce5, hcl5, hM5, hcc5, hfr5⟩ := Kd.R_elem HO_0.out z57 (x5_1 : Int) p5 q5
          obtain rfl := k57_openM hM5
          have hx5_0 : wr.cell? ⟨go5, (x5_1 : Int).toNat * 3, none⟩ = some (.int .i64 ((rd_T57 x0_1 x5_1).f0)) := hcc5 0 _ rfl
          have hx5_1 : wr.cell? ⟨go5, (x5_1 : Int).toNat * 3 + 1, none⟩ = some (.int .i64 ((rd_T57 x0_1 x5_1).f1)) := hcc5 1 _ rfl
          have hx5_2 : wr.cell? ⟨go5, (x5_1 : Int).toNat * 3 + 2, none⟩ = some (.int .i64 ((rd_T57 x0_1 x5_1).f2)) := hcc5 2 _ rfl
          have hf5_0 : wr.frozen? ⟨go5, (x5_1 : Int).toNat * 3, none⟩ = false := hfr5 0
          have hf5_1 : wr.frozen? ⟨go5, (x5_1 : Int).toNat * 3 + 1, none⟩ = false := hfr5 1
          have hf5_2 : wr.frozen? ⟨go5, (x5_1 : Int).toNat * 3 + 2, none⟩ = false := hfr5 2
          clear hcl5 hcc5 hfr5 hM5
          replace p5 := eq_true p5
          replace q5 := eq_true q5
          have HX9 := Aside0.mk (show Kd.R k57 57 wr w0.heap.size (fun k_ => (P0_ k_ ∨ w.heap.size ≤ k_)) (.slice (some ⟨go5, 0, none⟩) x0_1.length co8) x0_1 from (by (with_reducible repeat (first | apply Kd.R_alloc | apply Kd.R_drewN | apply Kd.R_drew)); exact HO_0.out))
          obtain ⟨ce9, hcl9, hM9, hcc9, hfr9⟩ := Kd.R_elem HX9.out z57 (x5_1 : Int) (of_decide_eq_true (by first | (with_reducible assumption) | assumption)) (by have h_ : (x5_1 : Int) < ((x0_1.length : Int) : Int) := of_decide_eq_true (by first | (with_reducible assumption) | assumption); first | exact h_ | (have e_ := (Kd.R_reads' HO_0.out).1; omega) | simpa using h_)
          obtain rfl := k57_openM hM9
          have HP9 := Kd.R_seg HX9.out (x5_1 : Int) (of_decide_eq_true (by first | (with_reducible assumption) | assumption)) (by have h_ : (x5_1 : Int) < ((x0_1.length : Int) : Int) := of_decide_eq_true (by first | (with_reducible assumption) | assumption); first | exact h_ | (have e_ := (Kd.R_reads' HO_0.out).1; omega) | simpa using h_) (seg := [.int .i64 x1_1]) (j := 0) hcl9 hcc9 (show 1 ≤ 3 from by decide) (x' := (⟨x1_1, (rd_T57 x0_1 x5_1).f1, (rd_T57 x0_1 x5_1).f2⟩ : S57)) (k57_mkM _ _ _ (⟨x1_1, (rd_T57 x0_1 x5_1).f1, (rd_T57 x0_1 x5_1).f2⟩ : S57) ) (fun _ hk => hk)
          have hx9_0 := hcc9 0 _ rfl
          (try simp only [show (k57).sz = 3 from rfl, Nat.mul_one, Nat.add_zero] at hx9_0)
          have hf9_0 := hfr9 0
          (try simp only [show (k57).sz = 3 from rfl, Nat.mul_one, Nat.add_zero] at hf9_0)
          clear hcl9 hcc9 hfr9 hM9
          go_wp2_with (first | ((with_reducible refine gate_store (t := 3) (p := 16) rfl ?_); refine store_event (t := 3) (p := 16) (v := ?vo_w10) (w1 := (wr.setCell ⟨go5, (x5_1 : Int).toNat * 3, none⟩ (.int .i64 x1_1))) ?hg ?ho ?hn ?hr ?_; (case ho => rfl); (case hg => rfl); (case hn => rfl); (case hr => first | (go_simp; done) | (go_simp; rfl)); intro w10 hw; have hg : wr.grownBy w10 (some go5) := (by rw [hw]; exact HP9.2); have hp_ : Kd.R k57 57 w10 w0.heap.size (fun k_ => (P0_ k_ ∨ w.heap.size ≤ k_)) (.slice (some ⟨go5, 0, none⟩) x0_1.length co8) y30001 := (by rw [hw, Ny30001.out]; exact HP9.1); clear HP9; have n0_ := Aside0.mk (hp_); have n1_ := Aside0.mk ((by rw [hw]; exact below_set (HB.out) GB5.out : Below w0.heap.size w0 w10)); have n2_ := Aside0.mk (Kept.of_grown (S := (fun k_ => P0_ k_)) hg (by repeat (first | (with_reducible first | exact HK.out | apply Kept.alloc | apply Kept.drewN | apply Kept.drew) | exact HK.out)) (fun k_ e_ => (HO_0.out.1 k_ e_))); clear HO_0; clear HB; clear HK; have HO_0 := n0_; have HB := n1_; have HK := n2_; clear n0_ n1_ n2_; clear hg hw hp_; have p6 : 0 ≤ (x5_1 : Int) := of_decide_eq_true (by first | (with_reducible assumption) | assumption); have q6 : (x5_1 : Int) < ((x0_1.length : Int) : Int) := of_decide_eq_true (by first | (with_reducible assumption) | assumption); obtain ⟨ce6, hcl6, hM6, hcc6, hfr6⟩ := Kd.R_elem HO_0.out z57 (x5_1 : Int) p6 q6; obtain rfl := k57_openM hM6; have hx6_0 : w10.cell? ⟨go5, (x5_1 : Int).toNat * 3, none⟩ = some (.int .i64 ((rd_T57 y30001 x5_1).f0)) := hcc6 0 _ rfl; have hx6_1 : w10.cell? ⟨go5, (x5_1 : Int).toNat * 3 + 1, none⟩ = some (.int .i64 ((rd_T57 y30001 x5_1).f1)) := hcc6 1 _ rfl; have hx6_2 : w10.cell? ⟨go5, (x5_1 : Int).toNat * 3 + 2, none⟩ = some (.int .i64 ((rd_T57 y30001 x5_1).f2)) := hcc6 2 _ rfl; have hf6_0 : w10.frozen? ⟨go5, (x5_1 : Int).toNat * 3, none⟩ = false := hfr6 0; have hf6_1 : w10.frozen? ⟨go5, (x5_1 : Int).toNat * 3 + 1, none⟩ = false := hfr6 1; have hf6_2 : w10.frozen? ⟨go5, (x5_1 : Int).toNat * 3 + 2, none⟩ = false := hfr6 2; clear hcl6 hcc6 hfr6 hM6; replace p6 := eq_true p6; replace q6 := eq_true q6; have HX11 := Aside0.mk (show Kd.R k57 57 w10 w0.heap.size (fun k_ => (P0_ k_ ∨ w.heap.size ≤ k_)) (.slice (some ⟨go5, 0, none⟩) x0_1.length co8) y30001 from (by (with_reducible repeat (first | apply Kd.R_alloc | apply Kd.R_drewN | apply Kd.R_drew)); exact HO_0.out)); obtain ⟨ce11, hcl11, hM11, hcc11, hfr11⟩ := Kd.R_elem HX11.out z57 (x5_1 : Int) (of_decide_eq_true (by first | (with_reducible assumption) | assumption)) (by have h_ : (x5_1 : Int) < ((x0_1.length : Int) : Int) := of_decide_eq_true (by first | (with_reducible assumption) | assumption); first | exact h_ | (have e_ := (Kd.R_reads' HO_0.out).1; omega) | simpa using h_); obtain rfl := k57_openM hM11; have HP11 := Kd.R_seg HX11.out (x5_1 : Int) (of_decide_eq_true (by first | (with_reducible assumption) | assumption)) (by have h_ : (x5_1 : Int) < ((x0_1.length : Int) : Int) := of_decide_eq_true (by first | (with_reducible assumption) | assumption); first | exact h_ | (have e_ := (Kd.R_reads' HO_0.out).1; omega) | simpa using h_) (seg := [.int .i64 (wrap64 (x1_1 + 1))]) (j := 1) hcl11 hcc11 (show 2 ≤ 3 from by decide) (x' := (⟨(rd_T57 y30001 x5_1).f0, wrap64 (x1_1 + 1), (rd_T57 y30001 x5_1).f2⟩ : S57)) (k57_mkM _ _ _ (⟨(rd_T57 y30001 x5_1).f0, wrap64 (x1_1 + 1), (rd_T57 y30001 x5_1).f2⟩ : S57) ) (fun _ hk => hk); have hx11_1 := hcc11 1 _ rfl; (try simp only [show (k57).sz = 3 from rfl, Nat.mul_one, Nat.add_zero] at hx11_1); have hf11_1 := hfr11 1; (try simp only [show (k57).sz = 3 from rfl, Nat.mul_one, Nat.add_zero] at hf11_1); clear hcl11 hcc11 hfr11 hM11) | ((with_reducible refine gate_store (t := 3) (p := 23) rfl ?_); refine store_event (t := 3) (p := 23) (v := ?vo_w12) (w1 := (w10.setCell ⟨go5, (x5_1 : Int).toNat * 3 + 1, none⟩ (.int .i64 (wrap64 (x1_1 + 1))))) ?hg ?ho ?hn ?hr ?_; (case ho => rfl); (case hg => rfl); (case hn => rfl); (case hr => first | (go_simp; done) | (go_simp; rfl)); intro w12 hw; have hg : w10.grownBy w12 (some go5) := (by rw [hw]; exact HP11.2); have hp_ : Kd.R k57 57 w12 w0.heap.size (fun k_ => (P0_ k_ ∨ w.heap.size ≤ k_)) (.slice (some ⟨go5, 0, none⟩) x0_1.length co8) y30002 := (by rw [hw, Ny30002.out]; exact HP11.1); clear HP11; have n0_ := Aside0.mk (hp_); have n1_ := Aside0.mk ((by rw [hw]; exact below_set (HB.out) GB5.out : Below w0.heap.size w0 w12)); have n2_ := Aside0.mk (Kept.of_grown (S := (fun k_ => P0_ k_)) hg (by repeat (first | (with_reducible first | exact HK.out | apply Kept.alloc | apply Kept.drewN | apply Kept.drew) | exact HK.out)) (fun k_ e_ => (HO_0.out.1 k_ e_))); clear HO_0; clear HB; clear HK; have HO_0 := n0_; have HB := n1_; have HK := n2_; clear n0_ n1_ n2_; clear hg hw hp_; have p7 : 0 ≤ (x5_1 : Int) := of_decide_eq_true (by first | (with_reducible assumption) | assumption); have q7 : (x5_1 : Int) < ((x0_1.length : Int) : Int) := of_decide_eq_true (by first | (with_reducible assumption) | assumption); obtain ⟨ce7, hcl7, hM7, hcc7, hfr7⟩ := Kd.R_elem HO_0.out z57 (x5_1 : Int) p7 q7; obtain rfl := k57_openM hM7; have hx7_0 : w12.cell? ⟨go5, (x5_1 : Int).toNat * 3, none⟩ = some (.int .i64 ((rd_T57 y30002 x5_1).f0)) := hcc7 0 _ rfl; have hx7_1 : w12.cell? ⟨go5, (x5_1 : Int).toNat * 3 + 1, none⟩ = some (.int .i64 ((rd_T57 y30002 x5_1).f1)) := hcc7 1 _ rfl; have hx7_2 : w12.cell? ⟨go5, (x5_1 : Int).toNat * 3 + 2, none⟩ = some (.int .i64 ((rd_T57 y30002 x5_1).f2)) := hcc7 2 _ rfl; have hf7_0 : w12.frozen? ⟨go5, (x5_1 : Int).toNat * 3, none⟩ = false := hfr7 0; have hf7_1 : w12.frozen? ⟨go5, (x5_1 : Int).toNat * 3 + 1, none⟩ = false := hfr7 1; have hf7_2 : w12.frozen? ⟨go5, (x5_1 : Int).toNat * 3 + 2, none⟩ = false := hfr7 2; clear hcl7 hcc7 hfr7 hM7; replace p7 := eq_true p7; replace q7 := eq_true q7; have HX13 := Aside0.mk (show Kd.R k57 57 w12 w0.heap.size (fun k_ => (P0_ k_ ∨ w.heap.size ≤ k_)) (.slice (some ⟨go5, 0, none⟩) x0_1.length co8) y30002 from (by (with_reducible repeat (first | apply Kd.R_alloc | apply Kd.R_drewN | apply Kd.R_drew)); exact HO_0.out)); obtain ⟨ce13, hcl13, hM13, hcc13, hfr13⟩ := Kd.R_elem HX13.out z57 (x5_1 : Int) (of_decide_eq_true (by first | (with_reducible assumption) | assumption)) (by have h_ : (x5_1 : Int) < ((x0_1.length : Int) : Int) := of_decide_eq_true (by first | (with_reducible assumption) | assumption); first | exact h_ | (have e_ := (Kd.R_reads' HO_0.out).1; omega) | simpa using h_); obtain rfl := k57_openM hM13; have HP13 := Kd.R_seg HX13.out (x5_1 : Int) (of_decide_eq_true (by first | (with_reducible assumption) | assumption)) (by have h_ : (x5_1 : Int) < ((x0_1.length : Int) : Int) := of_decide_eq_true (by first | (with_reducible assumption) | assumption); first | exact h_ | (have e_ := (Kd.R_reads' HO_0.out).1; omega) | simpa using h_) (seg := [.int .i64 (wrap64 ((wrap64 (x1_1 + 1)) + 1))]) (j := 2) hcl13 hcc13 (show 3 ≤ 3 from by decide) (x' := (⟨(rd_T57 y30002 x5_1).f0, (rd_T57 y30002 x5_1).f1, wrap64 ((wrap64 (x1_1 + 1)) + 1)⟩ : S57)) (k57_mkM _ _ _ (⟨(rd_T57 y30002 x5_1).f0, (rd_T57 y30002 x5_1).f1, wrap64 ((wrap64 (x1_1 + 1)) + 1)⟩ : S57) ) (fun _ hk => hk); have hx13_2 := hcc13 2 _ rfl; (try simp only [show (k57).sz = 3 from rfl, Nat.mul_one, Nat.add_zero] at hx13_2); have hf13_2 := hfr13 2; (try simp only [show (k57).sz = 3 from rfl, Nat.mul_one, Nat.add_zero] at hf13_2); clear hcl13 hcc13 hfr13 hM13) | ((with_reducible refine gate_store (t := 3) (p := 30) rfl ?_); refine store_event (t := 3) (p := 30) (v := ?vo_w14) (w1 := (w12.setCell ⟨go5, (x5_1 : Int).toNat * 3 + 2, none⟩ (.int .i64 (wrap64 ((wrap64 (x1_1 + 1)) + 1))))) ?hg ?ho ?hn ?hr ?_; (case ho => rfl); (case hg => rfl); (case hn => rfl); (case hr => first | (go_simp; done) | (go_simp; rfl)); intro w14 hw; have hg : w12.grownBy w14 (some go5) := (by rw [hw]; exact HP13.2); have hp_ : Kd.R k57 57 w14 w0.heap.size (fun k_ => (P0_ k_ ∨ w.heap.size ≤ k_)) (.slice (some ⟨go5, 0, none⟩) x0_1.length co8) y30003 := (by rw [hw, Ny30003.out]; exact HP13.1); clear HP13; have n0_ := Aside0.mk (hp_); have n1_ := Aside0.mk ((by rw [hw]; exact below_set (HB.out) GB5.out : Below w0.heap.size w0 w14)); have n2_ := Aside0.mk (Kept.of_grown (S := (fun k_ => P0_ k_)) hg (by repeat (first | (with_reducible first | exact HK.out | apply Kept.alloc | apply Kept.drewN | apply Kept.drew) | exact HK.out)) (fun k_ e_ => (HO_0.out.1 k_ e_))); clear HO_0; clear HB; clear HK; have HO_0 := n0_; have HB := n1_; have HK := n2_; clear n0_ n1_ n2_; clear hg hw hp_))
          go_roundg k1
          case measure => have := HK1.out; omega
          case rel => exact ⟨(y30003), (wrap64 ((wrap64 ((wrap64 (x1_1 + 1)) + 1)) + 1)), (wrap64 (x5_1 + 1)), (by first | rfl | (simp; done) | (simp [*]; done)), (by first | rfl | (simp; done) | (simp [*]; done)), H', ⟨by have := HK1.out; omega⟩, ⟨by (with_reducible repeat (first | apply Kd.R_alloc | apply Kd.R_drewN | apply Kd.R_drew)); exact HO_0.out⟩, ⟨by repeat (first | (with_reducible first | exact HK.out | apply Kept.alloc | apply Kept.drewN | apply Kept.drew) | exact HK.out)⟩, ⟨by repeat (first | (with_reducible first | exact HB.out | apply below_alloc | apply pw_below_drewN | apply below_drew1) | exact HB.out)⟩⟩
        · rw [if_neg c4] at H
          exact absurd H (by simp)
      · rw [if_neg c3] at H
        have c3b0 : decide (x5_1 < (x0_1.length : Int)) = false := decide_eq_false c3
        clear c3
        simp only [Option.some.injEq, Prod.mk.injEq] at H
        obtain ⟨rfl, rfl⟩ := H
        obtain ⟨Ao15, co15, eo15⟩ := Kd.R_slice HO_0.out
        subst eo15
        go_wp2
        go_ret
        exact ⟨by first | rfl | (simp [errW_none, errW_some] <;> rfl) | (simp [*, errW_none, errW_some] <;> rfl), by (with_reducible repeat (first | apply Kd.R_alloc | apply Kd.R_drewN | apply Kd.R_drew)); exact HO_0.out, by repeat (first | (with_reducible first | exact HB.out | apply below_alloc | apply pw_below_drewN | apply below_drew1) | exact HB.out), by repeat (first | (with_reducible first | exact HK.out | apply Kept.alloc | apply Kept.drewN | apply Kept.drew) | exact HK.out)⟩

end Go.Proofs.Ytfgeickfheogoaa.Q

namespace Go.Proofs.Ytfgeickfheogoaa.Q
open Go.RowKit Go.Proofs.YtfgeickfheogoaaW.PrintWords Go.Proofs.YtfgeickfheogoaaW.PrintLast Go.Proofs.YtfgeickfheogoaaW.PrintMore
attribute [local go_sem] max2_int min2_int max_two min_two max_three min_three max_four min_four
set_option linter.unusedVariables false
set_option linter.unusedSimpArgs false
/-! ### laws_heldRunS: function 30 -/
def laws_heldRunS.l0 : Nat → List (S57) → Int → Int → Option (Int)
  | 0, _, _, _ => none
  | k + 1, x0, x1, x5 => if x5 < (x0.length : Int) then (if 0 ≤ x5 then (if ((rd_T57 x0 x5).f0) = x1 then (if ((rd_T57 x0 x5).f1) = (wrap64 (x1 + 1)) then (if ((rd_T57 x0 x5).f2) = (wrap64 ((wrap64 (x1 + 1)) + 1)) then (laws_heldRunS.l0 k x0 (wrap64 ((wrap64 ((wrap64 (x1 + 1)) + 1)) + 1)) (wrap64 (x5 + 1))) else (some (-1))) else (some (-1))) else (some (-1))) else (none)) else (some x1)
def laws_heldRunS.f (k : Nat) (l0 : List (S57)) (a1 : Int) : Option (Int) := laws_heldRunS.l0 k l0 a1 0
theorem laws_heldRunS.mono_l : ∀ k, (∀ y0 y1 y2, LeO (laws_heldRunS.l0 k y0 y1 y2) (laws_heldRunS.l0 (k + 1) y0 y1 y2))
  | 0 => fun _ _ _ r h => by simp [laws_heldRunS.l0] at h
  | k + 1 => by
    have ih0 := laws_heldRunS.mono_l k
    · intro y0 y1 y2
      unfold laws_heldRunS.l0
      repeat' first
      | (with_reducible exact ih0 _ _ _)
      | (with_reducible exact LeO.refl _)
      | (with_reducible exact LeO.none _)
      | (with_reducible refine LeO.ite ?_ ?_)
      | (with_reducible refine LeO.bind ?_ (fun _ => ?_))
      | exact ih0 _ _ _
      | exact LeO.none _
      | refine LeO.ite ?_ ?_
      | refine LeO.bind ?_ (fun _ => ?_)
theorem laws_heldRunS.mono : ∀ a0 a1 k, LeO (laws_heldRunS.f k a0 a1) (laws_heldRunS.f (k + 1) a0 a1) := by
  intro a0 a1 k
  have ih0 := laws_heldRunS.mono_l k
  unfold laws_heldRunS.f
  repeat' first
      | (with_reducible exact ih0 _ _ _)
      | (with_reducible exact LeO.refl _)
      | (with_reducible exact LeO.none _)
      | (with_reducible refine LeO.ite ?_ ?_)
      | (with_reducible refine LeO.bind ?_ (fun _ => ?_))
      | exact ih0 _ _ _
      | exact LeO.none _
      | refine LeO.ite ?_ ?_
      | refine LeO.bind ?_ (fun _ => ?_)
set_option maxHeartbeats 8000000 in
set_option maxRecDepth 100000 in
theorem laws_heldRunS.calls (k : Nat) (A0 : Option Addr) (c0 : Nat) (l0 : List (S57)) (a1 : Int) (r : Int) (w : World) (hr0 : Kd.C k57 w A0 l0.length l0) (hc0 : l0.length ≤ c0) (h : laws_heldRunS.f k l0 a1 = some r) :
    Calls Try.prog 30 #[.slice A0 l0.length c0, .int .i64 a1] w fun e w' => e = .returned (.int .i64 r) ∧ Drawn0 w w' := by
  have HR0 := Aside0.mk hr0
  have HC0 := Aside0.mk hc0
  clear hr0 hc0
  have H : (laws_heldRunS.l0 k l0 a1 0) = some r := h
  clear h
  have H' := Aside0.mk H
  clear H
  go_enter Try.func30, Try.ntmps30
  go_wp2
  go_loopg [1, 5] k (fun kq v1 v5 w' => ∃ (x1_1 : Int) (x5_1 : Int), v1 = .int .i64 x1_1 ∧ v5 = .int .i64 x5_1 ∧ Aside0 (laws_heldRunS.l0 kq l0 x1_1 x5_1 = some r) ∧ Aside0 (kq ≤ k) ∧ Drawn0 w w')
  case atStart => exact ⟨(a1), (0), (by first | rfl | (simp; done) | (simp [*]; done)), (by first | rfl | (simp; done) | (simp [*]; done)), H', ⟨Nat.le_refl _⟩, by repeat (first | exact Drawn0.refl _ | apply Drawn0.step)⟩
  case round =>
    clear H'
    try clear p2
    obtain ⟨x1_1, x5_1, rfl, rfl, HA, HK1, ⟨m1, rfl⟩⟩ := hrel
    cases gk with
    | zero => exact absurd HA.out (by simp [laws_heldRunS.l0])
    | succ k1 =>
      have H := HA.out
      clear HA
      simp only [laws_heldRunS.l0] at H
      by_cases c3 : x5_1 < (l0.length : Int)
      · rw [if_pos c3] at H
        have c3b0 : decide (x5_1 < (l0.length : Int)) = true := decide_eq_true c3
        clear c3
        by_cases c4 : 0 ≤ x5_1
        · rw [if_pos c4] at H
          have c4b0 : decide (0 ≤ x5_1) = true := decide_eq_true c4
          clear c4
          by_cases c5 : ((rd_T57 l0 x5_1).f0) = x1_1
          · rw [if_pos c5] at H
            have c5b0 : (((rd_T57 l0 x5_1).f0) == x1_1) = true := beq_iff_eq.mpr c5
            have c5b1 : (((rd_T57 l0 x5_1).f0) != x1_1) = false := bne_eq_false_iff_eq.mpr c5
            clear c5
            by_cases c6 : ((rd_T57 l0 x5_1).f1) = (wrap64 (x1_1 + 1))
            · rw [if_pos c6] at H
              have c6b0 : (((rd_T57 l0 x5_1).f1) == (wrap64 (x1_1 + 1))) = true := beq_iff_eq.mpr c6
              have c6b1 : (((rd_T57 l0 x5_1).f1) != (wrap64 (x1_1 + 1))) = false := bne_eq_false_iff_eq.mpr c6
              clear c6
              by_cases c7 : ((rd_T57 l0 x5_1).f2) = (wrap64 ((wrap64 (x1_1 + 1)) + 1))
              · rw [if_pos c7] at H
                have c7b0 : (((rd_T57 l0 x5_1).f2) == (wrap64 ((wrap64 (x1_1 + 1)) + 1))) = true := beq_iff_eq.mpr c7
                have c7b1 : (((rd_T57 l0 x5_1).f2) != (wrap64 ((wrap64 (x1_1 + 1)) + 1))) = false := bne_eq_false_iff_eq.mpr c7
                clear c7
                have H' := Aside0.mk H
                clear H
                have p31001 : 0 ≤ (x5_1 : Int) := of_decide_eq_true (by first | (with_reducible assumption) | assumption)
                have q31001 : x5_1 < (l0.length : Int) := of_decide_eq_true (by first | (with_reducible assumption) | assumption)
                obtain ⟨ad31001, e31001, hx31001_0, hx31001_1, hx31001_2⟩ := at_T57 HR0.out x5_1 p31001 q31001
                cases e31001
                replace p31001 := eq_true p31001
                replace q31001 := eq_true q31001
                have p31002 : 0 ≤ (x5_1 : Int) := of_decide_eq_true (by first | (with_reducible assumption) | assumption)
                have q31002 : x5_1 < (l0.length : Int) := of_decide_eq_true (by first | (with_reducible assumption) | assumption)
                obtain ⟨ad31002, e31002, hx31002_0, hx31002_1, hx31002_2⟩ := at_T57 HR0.out x5_1 p31002 q31002
                obtain rfl : ad31001 = ad31002 := (by injection e31002)
                replace p31002 := eq_true p31002
                replace q31002 := eq_true q31002
                have p31003 : 0 ≤ (x5_1 : Int) := of_decide_eq_true (by first | (with_reducible assumption) | assumption)
                have q31003 : x5_1 < (l0.length : Int) := of_decide_eq_true (by first | (with_reducible assumption) | assumption)
                obtain ⟨ad31003, e31003, hx31003_0, hx31003_1, hx31003_2⟩ := at_T57 HR0.out x5_1 p31003 q31003
                obtain rfl : ad31001 = ad31003 := (by injection e31003)
                replace p31003 := eq_true p31003
                replace q31003 := eq_true q31003
                go_wp2
                go_roundg k1
                case measure => have := HK1.out; omega
                case rel => exact ⟨(wrap64 ((wrap64 ((wrap64 (x1_1 + 1)) + 1)) + 1)), (wrap64 (x5_1 + 1)), (by first | rfl | (simp; done) | (simp [*]; done)), (by first | rfl | (simp; done) | (simp [*]; done)), H', ⟨by have := HK1.out; omega⟩, by repeat (first | exact Drawn0.refl _ | apply Drawn0.step)⟩
              · rw [if_neg c7] at H
                have c7b0 : (((rd_T57 l0 x5_1).f2) == (wrap64 ((wrap64 (x1_1 + 1)) + 1))) = false := beq_eq_false_iff_ne.mpr c7
                have c7b1 : (((rd_T57 l0 x5_1).f2) != (wrap64 ((wrap64 (x1_1 + 1)) + 1))) = true := bne_iff_ne.mpr c7
                obtain rfl := Option.some.inj H
                have p31001 : 0 ≤ (x5_1 : Int) := of_decide_eq_true (by first | (with_reducible assumption) | assumption)
                have q31001 : x5_1 < (l0.length : Int) := of_decide_eq_true (by first | (with_reducible assumption) | assumption)
                obtain ⟨ad31001, e31001, hx31001_0, hx31001_1, hx31001_2⟩ := at_T57 HR0.out x5_1 p31001 q31001
                cases e31001
                replace p31001 := eq_true p31001
                replace q31001 := eq_true q31001
                have p31002 : 0 ≤ (x5_1 : Int) := of_decide_eq_true (by first | (with_reducible assumption) | assumption)
                have q31002 : x5_1 < (l0.length : Int) := of_decide_eq_true (by first | (with_reducible assumption) | assumption)
                obtain ⟨ad31002, e31002, hx31002_0, hx31002_1, hx31002_2⟩ := at_T57 HR0.out x5_1 p31002 q31002
                obtain rfl : ad31001 = ad31002 := (by injection e31002)
                replace p31002 := eq_true p31002
                replace q31002 := eq_true q31002
                have p31003 : 0 ≤ (x5_1 : Int) := of_decide_eq_true (by first | (with_reducible assumption) | assumption)
                have q31003 : x5_1 < (l0.length : Int) := of_decide_eq_true (by first | (with_reducible assumption) | assumption)
                obtain ⟨ad31003, e31003, hx31003_0, hx31003_1, hx31003_2⟩ := at_T57 HR0.out x5_1 p31003 q31003
                obtain rfl : ad31001 = ad31003 := (by injection e31003)
                replace p31003 := eq_true p31003
                replace q31003 := eq_true q31003
                go_wp2
                go_ret
                exact ⟨by first | rfl | (simp; done) | (simp [*]; done), by repeat (first | exact Drawn0.refl _ | apply Drawn0.step)⟩
            · rw [if_neg c6] at H
              have c6b0 : (((rd_T57 l0 x5_1).f1) == (wrap64 (x1_1 + 1))) = false := beq_eq_false_iff_ne.mpr c6
              have c6b1 : (((rd_T57 l0 x5_1).f1) != (wrap64 (x1_1 + 1))) = true := bne_iff_ne.mpr c6
              obtain rfl := Option.some.inj H
              have p31001 : 0 ≤ (x5_1 : Int) := of_decide_eq_true (by first | (with_reducible assumption) | assumption)
              have q31001 : x5_1 < (l0.length : Int) := of_decide_eq_true (by first | (with_reducible assumption) | assumption)
              obtain ⟨ad31001, e31001, hx31001_0, hx31001_1, hx31001_2⟩ := at_T57 HR0.out x5_1 p31001 q31001
              cases e31001
              replace p31001 := eq_true p31001
              replace q31001 := eq_true q31001
              have p31002 : 0 ≤ (x5_1 : Int) := of_decide_eq_true (by first | (with_reducible assumption) | assumption)
              have q31002 : x5_1 < (l0.length : Int) := of_decide_eq_true (by first | (with_reducible assumption) | assumption)
              obtain ⟨ad31002, e31002, hx31002_0, hx31002_1, hx31002_2⟩ := at_T57 HR0.out x5_1 p31002 q31002
              obtain rfl : ad31001 = ad31002 := (by injection e31002)
              replace p31002 := eq_true p31002
              replace q31002 := eq_true q31002
              go_wp2
              go_ret
              exact ⟨by first | rfl | (simp; done) | (simp [*]; done), by repeat (first | exact Drawn0.refl _ | apply Drawn0.step)⟩
          · rw [if_neg c5] at H
            have c5b0 : (((rd_T57 l0 x5_1).f0) == x1_1) = false := beq_eq_false_iff_ne.mpr c5
            have c5b1 : (((rd_T57 l0 x5_1).f0) != x1_1) = true := bne_iff_ne.mpr c5
            obtain rfl := Option.some.inj H
            have p31001 : 0 ≤ (x5_1 : Int) := of_decide_eq_true (by first | (with_reducible assumption) | assumption)
            have q31001 : x5_1 < (l0.length : Int) := of_decide_eq_true (by first | (with_reducible assumption) | assumption)
            obtain ⟨ad31001, e31001, hx31001_0, hx31001_1, hx31001_2⟩ := at_T57 HR0.out x5_1 p31001 q31001
            cases e31001
            replace p31001 := eq_true p31001
            replace q31001 := eq_true q31001
            go_wp2
            go_ret
            exact ⟨by first | rfl | (simp; done) | (simp [*]; done), by repeat (first | exact Drawn0.refl _ | apply Drawn0.step)⟩
        · rw [if_neg c4] at H
          exact absurd H (by simp)
      · rw [if_neg c3] at H
        have c3b0 : decide (x5_1 < (l0.length : Int)) = false := decide_eq_false c3
        clear c3
        obtain rfl := Option.some.inj H
        go_wp2
        go_ret
        exact ⟨by first | rfl | (simp; done) | (simp [*]; done), by repeat (first | exact Drawn0.refl _ | apply Drawn0.step)⟩

end Go.Proofs.Ytfgeickfheogoaa.Q

/- Words of this session's own hand-made walks: where the first element lies for which a test holds; draws that follow each other. -/
namespace Go.Proofs.Ytfgeickfheogoaa.Q
open Go.RowKit Go.Proofs.YtfgeickfheogoaaW.PrintWords Go.Proofs.YtfgeickfheogoaaW.PrintLast Go.Proofs.YtfgeickfheogoaaW.PrintMore
attribute [local go_sem] max2_int min2_int max_two min_two max_three min_three max_four min_four
set_option linter.unusedVariables false
set_option linter.unusedSimpArgs false

/-- p fails at all that lies before k -/
def SawNone {α : Type} (p : α → Bool) (l : List α) (k : Nat) : Prop := ∀ j, j < k → ∀ h : j < l.length, p l[j] = false
theorem SawNone.succ {α : Type} {p : α → Bool} {l : List α} {k : Nat} (h : SawNone p l k) (hk : k < l.length) (hp : p l[k] = false) : SawNone p l (k + 1) := by
  intro j hj hl
  by_cases e : j = k
  · subst e; exact hp
  · exact h j (by omega) hl
theorem R_empty {α : Type} (d : Kd α) (e base : Nat) (W : World) (hb : base ≤ W.heap.size) : d.R e (W.alloc (.cells #[] e)) base (fun _ => True) (.slice (some ⟨W.heap.size, 0, none⟩) 0 0) [] :=
  ⟨fun _ _ => trivial, OwnRow.lit (ps := []) (inner := []) W base (Reps.none _ _) hb (by simp)⟩
end Go.Proofs.Ytfgeickfheogoaa.Q

/- Grids of pixels as the machine has them: 256 cells. -/
namespace Go.Proofs.Ytfgeickfheogoaa.Q
open Go.RowKit Go.Proofs.YtfgeickfheogoaaW.PrintWords Go.Proofs.YtfgeickfheogoaaW.PrintLast Go.Proofs.YtfgeickfheogoaaW.PrintMore
attribute [local go_sem] max2_int min2_int max_two min_two max_three min_three max_four min_four
set_option linter.unusedVariables false
set_option linter.unusedSimpArgs false

/-- The cells of a grid: pixel p is that in column p % 16 and row p / 16. -/
def gc (g : Nat → Bool) : Array Value := Array.ofFn (n := 256) fun i => .bool (g i.val)
theorem gc_size (g : Nat → Bool) : (gc g).size = 256 := by simp [gc]
theorem gc_get (g : Nat → Bool) (i : Nat) (h : i < 256) : (gc g)[i]? = some (.bool (g i)) := by simp [gc, h]
theorem gc_one (g : Nat → Bool) : (gc g).all (·.oneCell') = true := by
  rw [Array.all_eq_true]
  intro i hi
  simp [gc, Value.oneCell']
theorem gc_set (g : Nat → Bool) (i : Nat) (b : Bool) : (gc g).setIfInBounds i (.bool b) = gc (fun p => if p = i then b else g p) := by
  unfold gc
  apply Array.ext
  · simp
  · intro j h1 h2
    rw [Array.getElem_setIfInBounds (by simpa using h1)]
    simp only [Array.getElem_ofFn]
    by_cases e : i = j
    · subst e; simp
    · rw [if_neg e, if_neg (fun h => e h.symm)]
theorem gc_congr {g g' : Nat → Bool} (h : ∀ p, p < 256 → g p = g' p) : gc g = gc g' := by
  unfold gc
  congr 1
  funext i
  rw [h i.val i.isLt]
theorem zero66 : Try.zeroCells66 = gc (fun _ => false) := by kernel_rfl
theorem info66 : (Try.prog.info? 66).map (·.size) = some 256 := by kernel_rfl
/-- A world in which block B is a grid's. -/
def GridAt (W : World) (B : Nat) (g : Nat → Bool) : Prop := W.heap[B]? = some (.cells (gc g) 66 (0, 0))
theorem GridAt.cell {W : World} {B : Nat} {g : Nat → Bool} (h : GridAt W B g) (i : Nat) (hi : i < 256) : W.cell? ⟨B, i, none⟩ = some (.bool (g i)) := (blk_cell h i).trans (gc_get g i hi)
theorem GridAt.free {W : World} {B : Nat} {g : Nat → Bool} (h : GridAt W B g) (i : Nat) : W.frozen? ⟨B, i, none⟩ = false := blk_frozen h i
theorem GridAt.below {W W' : World} {B : Nat} {g : Nat → Bool} (h : GridAt W B g) (hb : Below W.heap.size W W') : GridAt W' B g := blk_below h hb
theorem GridAt.lt {W : World} {B : Nat} {g : Nat → Bool} (h : GridAt W B g) : B < W.heap.size := blk_lt h
theorem GridAt.set_ {W : World} {B : Nat} {g : Nat → Bool} (h : GridAt W B g) (i : Nat) (b : Bool) : GridAt (W.setCell ⟨B, i, none⟩ (.bool b)) B (fun p => if p = i then b else g p) := by
  have := blk_set h i (.bool b)
  rw [gc_set] at this
  exact this
theorem GridAt.new (W : World) (g : Nat → Bool) : GridAt (W.alloc (.cells (gc g) 66)) W.heap.size g := blk_new _ _
theorem GridAt.alloc {W : World} {B : Nat} {g : Nat → Bool} (h : GridAt W B g) (o : Obj) : GridAt (W.alloc o) B g := blk_alloc h o
theorem GridAt.congr {W : World} {B : Nat} {g g' : Nat → Bool} (h : GridAt W B g) (he : ∀ p, p < 256 → g p = g' p) : GridAt W B g' := by
  unfold GridAt at h ⊢
  rw [← gc_congr he]; exact h
theorem GridAt.setRow {W : World} {B : Nat} {g : Nat → Bool} (h : GridAt W B g) (g' : Nat → Bool) : GridAt (W.setRow B (gc g')) B g' := setRow_heap W B _ _ _ _ h
theorem below_setRow {B : Nat} {a w : World} (h : Below B a w) {g : Nat} (hg : B ≤ g) (cs : Array Value) : Below B a (w.setRow g cs) :=
  ⟨h.os, h.tape, h.output, by rw [setRow_size]; exact h.size, fun i hi => (setRow_other w g i cs (by omega)).trans (h.block i hi)⟩
theorem underlying66 : Try.prog.underlying 66 = some (.array 16 64) := Try.underlying66
end Go.Proofs.Ytfgeickfheogoaa.Q

/- (impl.grid).has: whether a pixel, which may be anywhere, is in a grid. -/
namespace Go.Proofs.Ytfgeickfheogoaa.Q
open Go.RowKit Go.Proofs.YtfgeickfheogoaaW.PrintWords Go.Proofs.YtfgeickfheogoaaW.PrintLast Go.Proofs.YtfgeickfheogoaaW.PrintMore
attribute [local go_sem] max2_int min2_int max_two min_two max_three min_three max_four min_four
set_option linter.unusedVariables false
set_option linter.unusedSimpArgs false

def hasP (g : Nat → Bool) (x y : Int) : Bool := decide (x ≥ 0) && decide (x < 16) && decide (y ≥ 0) && decide (y < 16) && g (y.toNat * 16 + x.toNat)

set_option maxHeartbeats 2000000 in
set_option maxRecDepth 100000 in
theorem has_calls (g : Nat → Bool) (x y : Int) (w : World) :
    Calls Try.prog 60 #[.agg (gc g), .int .i64 x, .int .i64 y] w fun e w' => e = .returned (.bool (hasP g x y)) ∧ Below w.heap.size w w' := by
  have hB := Aside0.mk (below_alloc (Below.refl w.heap.size w) (.cells (gc g) 66))
  have hgs := gc_size g
  by_cases h1 : x ≥ 0
  · have d1 : decide (0 ≤ x) = true := by simpa using h1
    by_cases h2 : x < 16
    · have d2 : decide (x < 16) = true := by simpa using h2
      by_cases h3 : y ≥ 0
      · have d3 : decide (0 ≤ y) = true := by simpa using h3
        by_cases h4 : y < 16
        · have d4 : decide (y < 16) = true := by simpa using h4
          obtain ⟨x, rfl⟩ := Int.eq_ofNat_of_zero_le h1
          obtain ⟨y, rfl⟩ := Int.eq_ofNat_of_zero_le h3
          have hE := Aside0.mk (show hasP g (x : Int) (y : Int) = g (y * 16 + x) by simp [hasP]; omega)
          have hc := (GridAt.new w g).cell (y * 16 + x) (by omega)
          go_enter Try.func60, Try.ntmps60
          go_wp2
          go_ret
          exact ⟨by rw [hE.out]; rfl, hB.out⟩
        · have d4 : decide (y < 16) = false := by simpa using h4
          have hE := Aside0.mk (show hasP g x y = false by simp [hasP, h4])
          go_enter Try.func60, Try.ntmps60
          go_wp2
          go_ret
          exact ⟨by rw [hE.out]; rfl, hB.out⟩
      · have d3 : decide (0 ≤ y) = false := by simpa using h3
        have hE := Aside0.mk (show hasP g x y = false by simp [hasP, h3])
        go_enter Try.func60, Try.ntmps60
        go_wp2
        go_ret
        exact ⟨by rw [hE.out]; rfl, hB.out⟩
    · have d2 : decide (x < 16) = false := by simpa using h2
      have hE := Aside0.mk (show hasP g x y = false by simp [hasP, h2])
      go_enter Try.func60, Try.ntmps60
      go_wp2
      go_ret
      exact ⟨by rw [hE.out]; rfl, hB.out⟩
  · have d1 : decide (0 ≤ x) = false := by simpa using h1
    have hE := Aside0.mk (show hasP g x y = false by simp [hasP, h1])
    go_enter Try.func60, Try.ntmps60
    go_wp2
    go_ret
    exact ⟨by rw [hE.out]; rfl, hB.out⟩
end Go.Proofs.Ytfgeickfheogoaa.Q

/- Pixels that are connected in a grid: what a search finds that begins at one of them. -/
namespace Go.Proofs.Ytfgeickfheogoaa.Q
open Go.RowKit Go.Proofs.YtfgeickfheogoaaW.PrintWords Go.Proofs.YtfgeickfheogoaaW.PrintLast Go.Proofs.YtfgeickfheogoaaW.PrintMore
attribute [local go_sem] max2_int min2_int max_two min_two max_three min_three max_four min_four
set_option linter.unusedVariables false
set_option linter.unusedSimpArgs false

theorem hasP_iff (g : Nat → Bool) (x y : Int) : hasP g x y = true ↔ 0 ≤ x ∧ x < 16 ∧ 0 ≤ y ∧ y < 16 ∧ g (y.toNat * 16 + x.toNat) = true := by
  simp [hasP, and_assoc]
theorem hasP_nat (g : Nat → Bool) (r : Nat) (hr : r < 256) : hasP g ((r % 16 : Nat) : Int) ((r / 16 : Nat) : Int) = g r := by
  have e : r / 16 * 16 + r % 16 = r := by omega
  rw [Bool.eq_iff_iff, hasP_iff, Int.toNat_natCast, Int.toNat_natCast, e]
  constructor
  · intro h; exact h.2.2.2.2
  · intro h; exact ⟨by omega, by omega, by omega, by omega, h⟩
end Go.Proofs.Ytfgeickfheogoaa.Q

/- Plain words: numbers that do not wrap, elements of lists, rounds that are enough. -/
namespace Go.Proofs.Ytfgeickfheogoaa.Pure
open Go.RowKit Go.Proofs.Ytfgeickfheogoaa.Q Go.Proofs.YtfgeickfheogoaaW.PrintWords Go.Proofs.YtfgeickfheogoaaW.PrintLast Go.Proofs.YtfgeickfheogoaaW.PrintMore
set_option linter.unusedVariables false
set_option linter.unusedSimpArgs false

theorem w64 {x : Int} (h1 : -9223372036854775808 ≤ x) (h2 : x ≤ 9223372036854775807) : wrap64 x = x := by unfold wrap64; omega
theorem w64n (n : Nat) (h : n < 9223372036854775807) : wrap64 ((n : Int) + 1) = ((n + 1 : Nat) : Int) := by unfold wrap64; omega
/-- From K rounds on. -/
theorem ev_of {α : Type} {g : Nat → Option α} {r : α} (K : Nat) (h : ∀ k, K < k → g k = some r) : Ev g r := ⟨K + 1, fun k hk => h k (by omega)⟩
theorem ev_const {α : Type} {o : Option α} {r : α} (h : o = some r) : Ev (fun _ => o) r := ⟨0, fun _ _ => h⟩
theorem ev_bind {α β : Type} {g : Nat → Option α} {f : Nat → α → Option β} {a : α} {r : β} (h : Ev g a) (k : Ev (fun n => f n a) r) : Ev (fun n => (g n).bind (f n)) r := Ev.bind h k
theorem ev_now {α β : Type} {o : Option α} {f : Nat → α → Option β} {a : α} {r : β} (h : o = some a) (k : Ev (fun n => f n a) r) : Ev (fun n => o.bind (f n)) r := Ev.bind (ev_const h) k
theorem ev_pos {α : Type} {c : Prop} [Decidable c] {f g : Nat → Option α} {r : α} (h : c) (k : Ev f r) : Ev (fun n => if c then f n else g n) r := by
  simpa [h] using k
theorem ev_neg {α : Type} {c : Prop} [Decidable c] {f g : Nat → Option α} {r : α} (h : ¬ c) (k : Ev g r) : Ev (fun n => if c then f n else g n) r := by
  simpa [h] using k
/-- A loop that counts up to n: what it answers from i on. -/
theorem loop_up {σ ρ : Type} (K n : Nat) (L : Nat → Nat → σ → Option ρ) (Inv : Nat → σ → Prop) (F : Nat → σ → ρ)
    (step : ∀ i s k, i < n → Inv i s → K ≤ k → (L (k + 1) i s = some (F i s)) ∨ ∃ s', L (k + 1) i s = L k (i + 1) s' ∧ Inv (i + 1) s' ∧ F (i + 1) s' = F i s)
    (last : ∀ s k, Inv n s → K ≤ k → L (k + 1) n s = some (F n s)) :
    ∀ d i s k, i + d = n → Inv i s → K + d < k → L k i s = some (F i s) := by
  intro d
  induction d with
  | zero =>
    intro i s k hi hinv hk
    obtain ⟨k, rfl⟩ : ∃ m, k = m + 1 := ⟨k - 1, by omega⟩
    have : i = n := by omega
    subst this
    exact last s k hinv (by omega)
  | succ d ih =>
    intro i s k hi hinv hk
    obtain ⟨k, rfl⟩ : ∃ m, k = m + 1 := ⟨k - 1, by omega⟩
    rcases step i s k (by omega) hinv (by omega) with h | ⟨s', h, hi', hF⟩
    · exact h
    · rw [h, ih (i + 1) s' k (by omega) hi' (by omega), hF]
/-- The same, from some number of rounds on: for loops in loops. -/
theorem ev_up {σ ρ : Type} (n : Nat) (L : Nat → Nat → σ → Option ρ) (Inv : Nat → σ → Prop) (F : Nat → σ → ρ)
    (step : ∀ i s, i < n → Inv i s → Ev (fun k => L k i s) (F i s) ∨ ∃ s', (∀ k, L (k + 1) i s = L k (i + 1) s') ∧ Inv (i + 1) s' ∧ F (i + 1) s' = F i s)
    (last : ∀ s, Inv n s → Ev (fun k => L k n s) (F n s)) :
    ∀ d i s, i + d = n → Inv i s → Ev (fun k => L k i s) (F i s) := by
  intro d
  induction d with
  | zero =>
    intro i s hi hinv
    have : i = n := by omega
    subst this
    exact last s hinv
  | succ d ih =>
    intro i s hi hinv
    rcases step i s (by omega) hinv with h | ⟨s', h, hi', hF⟩
    · exact h
    · rw [← hF]
      exact Ev.step h (ih (i + 1) s' (by omega) hi')
theorem ev_up2 {σ ρ : Type} (n : Nat) (L : Nat → Nat → σ → Option ρ) (Inv : Nat → σ → Prop) (F : Nat → σ → ρ)
    (step : ∀ i s, i < n → Inv i s → Ev (fun k => L k i s) (F i s) ∨ ∃ s', (∀ r, Ev (fun k => L k (i + 1) s') r → Ev (fun k => L k i s) r) ∧ Inv (i + 1) s' ∧ F (i + 1) s' = F i s)
    (last : ∀ s, Inv n s → Ev (fun k => L k n s) (F n s)) :
    ∀ d i s, i + d = n → Inv i s → Ev (fun k => L k i s) (F i s) := by
  intro d
  induction d with
  | zero =>
    intro i s hi hinv
    have : i = n := by omega
    subst this
    exact last s hinv
  | succ d ih =>
    intro i s hi hinv
    rcases step i s (by omega) hinv with h | ⟨s', h, hi', hF⟩
    · exact h
    · rw [← hF]
      exact h _ (ih (i + 1) s' (by omega) hi')
theorem ev_val {α : Type} {g : Nat → Option α} {r r' : α} (h : Ev g r) (e : r = r') : Ev g r' := e ▸ h
theorem take_set {α : Type} (s : List α) (i : Nat) (c : α) (h : i < s.length) : (s.set i c).take (i + 1) = s.take i ++ [c] := by
  rw [List.take_succ_eq_append_getElem (by simpa using h), List.take_set_of_le (Nat.le_refl i)]
  simp
end Go.Proofs.Ytfgeickfheogoaa.Pure

/- impl.neighbours: the four neighbours of a pixel. -/
namespace Go.Proofs.Ytfgeickfheogoaa.Q
open Go.RowKit Go.Proofs.YtfgeickfheogoaaW.PrintWords Go.Proofs.YtfgeickfheogoaaW.PrintLast Go.Proofs.YtfgeickfheogoaaW.PrintMore
attribute [local go_sem] max2_int min2_int max_two min_two max_three min_three max_four min_four
set_option linter.unusedVariables false
set_option linter.unusedSimpArgs false
open Go.Proofs.Ytfgeickfheogoaa.Pure

/-- neighbour i of a pixel, which may be anywhere -/
def nbI (x y : Int) (i : Nat) : Int × Int := match i with
  | 0 => (x - 1, y)
  | 1 => (x + 1, y)
  | 2 => (x, y - 1)
  | _ => (x, y + 1)
/-- whether the neighbours before i all have what h says -/
def nbAll (h : Int → Int → Bool) (x y : Int) : Bool := h (x - 1) y && h (x + 1) y && h x (y - 1) && h x (y + 1)
def nbAny (h : Int → Int → Bool) (x y : Int) : Bool := h (x - 1) y || h (x + 1) y || h x (y - 1) || h x (y + 1)
theorem nbAll_no {h : Int → Int → Bool} {x y : Int} (i : Nat) (hi : i < 4) (hf : h (nbI x y i).1 (nbI x y i).2 = false) : nbAll h x y = false := by
  unfold nbAll
  obtain rfl | rfl | rfl | rfl : i = 0 ∨ i = 1 ∨ i = 2 ∨ i = 3 := by omega
  all_goals (simp only [nbI] at hf; rw [hf]; simp)
theorem nbAll_yes {h : Int → Int → Bool} {x y : Int} (ha : ∀ i, i < 4 → h (nbI x y i).1 (nbI x y i).2 = true) : nbAll h x y = true := by
  unfold nbAll
  have h0 := ha 0 (by omega)
  have h1 := ha 1 (by omega)
  have h2 := ha 2 (by omega)
  have h3 := ha 3 (by omega)
  simp only [nbI] at h0 h1 h2 h3
  rw [h0, h1, h2, h3]; rfl
theorem nbAny_yes {h : Int → Int → Bool} {x y : Int} (i : Nat) (hi : i < 4) (hf : h (nbI x y i).1 (nbI x y i).2 = true) : nbAny h x y = true := by
  unfold nbAny
  obtain rfl | rfl | rfl | rfl : i = 0 ∨ i = 1 ∨ i = 2 ∨ i = 3 := by omega
  all_goals (simp only [nbI] at hf; rw [hf]; simp)
theorem nbAny_no {h : Int → Int → Bool} {x y : Int} (ha : ∀ i, i < 4 → h (nbI x y i).1 (nbI x y i).2 = false) : nbAny h x y = false := by
  unfold nbAny
  have h0 := ha 0 (by omega)
  have h1 := ha 1 (by omega)
  have h2 := ha 2 (by omega)
  have h3 := ha 3 (by omega)
  simp only [nbI] at h0 h1 h2 h3
  rw [h0, h1, h2, h3]; rfl
def nbv (x y : Int) : Value := .agg #[.int .i64 (x - 1), .int .i64 y, .int .i64 (x + 1), .int .i64 y, .int .i64 x, .int .i64 (y - 1), .int .i64 x, .int .i64 (y + 1)]

set_option maxHeartbeats 4000000 in
set_option maxRecDepth 100000 in
theorem neighbours_calls (x y : Int) (h0 : 0 ≤ x ∧ x < 16 ∧ 0 ≤ y ∧ y < 16) (w : World) :
    Calls Try.prog 84 #[.int .i64 x, .int .i64 y] w fun e w' => e = .returned (nbv x y) ∧ Below w.heap.size w w' := by
  have e1 : wrap64 (x - 1) = x - 1 := w64 (by omega) (by omega)
  have e2 : wrap64 (x + 1) = x + 1 := w64 (by omega) (by omega)
  have e3 : wrap64 (y - 1) = y - 1 := w64 (by omega) (by omega)
  have e4 : wrap64 (y + 1) = y + 1 := w64 (by omega) (by omega)
  have hB := Aside0.mk (below_alloc (Below.refl w.heap.size w) (.cells #[.int .i64 0, .int .i64 0, .int .i64 0, .int .i64 0, .int .i64 0, .int .i64 0, .int .i64 0, .int .i64 0] 90))
  clear h0
  go_enter Try.func84, Try.ntmps84
  go_wp2
  refine bodyPost_ret (results_cell_row rfl _ _ w.heap.size 90 #[.int .i64 (x - 1), .int .i64 y, .int .i64 (x + 1), .int .i64 y, .int .i64 x, .int .i64 (y - 1), .int .i64 x, .int .i64 (y + 1)] (0, 0) (.array 4 89) rfl (blk_new _ _) Try.underlying90 rfl (by kernel_rfl)) rfl ?_
  exact ⟨rfl, below_alloc (Below.refl _ _) _⟩
end Go.Proofs.Ytfgeickfheogoaa.Q

/- impl.gridBy: the grid of the pixels for which a function value's answer is true. -/
namespace Go.Proofs.Ytfgeickfheogoaa.Q
open Go.RowKit Go.Proofs.YtfgeickfheogoaaW.PrintWords Go.Proofs.YtfgeickfheogoaaW.PrintLast Go.Proofs.YtfgeickfheogoaaW.PrintMore
attribute [local go_sem] max2_int min2_int max_two min_two max_three min_three max_four min_four
set_option linter.unusedVariables false
set_option linter.unusedSimpArgs false

/-- what has been asked so far -/
def gso (so : Nat → Nat → Bool) (n : Nat) : Nat → Bool := fun p => decide (p < n) && so (p % 16) (p / 16)

theorem gso_step (so : Nat → Nat → Bool) (x y : Nat) (hx : x < 16) (p : Nat) : (if p = y * 16 + x then so x y else gso so (16 * y + x) p) = gso so (16 * y + (x + 1)) p := by
  unfold gso
  by_cases e : p = y * 16 + x
  · rw [if_pos e]
    have h1 : p % 16 = x := by omega
    have h2 : p / 16 = y := by omega
    rw [h1, h2]
    simp; omega
  · rw [if_neg e]
    congr 1
    rw [decide_eq_decide]
    omega
set_option maxHeartbeats 8000000 in
set_option maxRecDepth 100000 in
theorem gridBy_calls (q : Nat) (lb : Array Value) (so : Nat → Nat → Bool) (w : World)
    (eg : ∀ args W, (callFunc q args).run Try.prog W = .ok (.enter q args) W)
    (hp : ∀ (W : World) (x y : Nat), x < 16 → y < 16 → Below w.heap.size w W → Calls Try.prog q (#[.int .i64 (x : Int), .int .i64 (y : Int)] ++ lb) W fun e W' => e = .returned (.bool (so x y)) ∧ Below W.heap.size W W') :
    Calls Try.prog 62 #[.func (.func q) #[] lb] w fun e w' => e = .returned (.agg (gc (gso so 256))) ∧ Below w.heap.size w w' := by
  have HP := Aside0.mk hp
  clear hp
  have z0 := zero66
  have hst := run_storeCells_new (P := Try.prog) (w.alloc (.cells (gc fun _ => false) 66)) 66 (gc fun _ => false) (gc fun _ => false) (by rw [gc_size]; exact info66) rfl (gc_one _)
  simp only [World.size_alloc] at hst
  go_enter Try.func62, Try.ntmps62
  go_wp2
  go_loopw [7] (fun v7 W => ∃ y : Nat, v7 = .int .i64 y ∧ y ≤ 16 ∧ GridAt W (w.heap.size + 1) (gso so (16 * y)) ∧ GridAt W w.heap.size (fun _ => false) ∧ Aside0 (Below w.heap.size w W)) (fun v7 _ => 16 - (intOf v7).toNat)
  case atStart =>
    refine ⟨0, rfl, by omega, ?_, (GridAt.new _ _).alloc _, ⟨((Below.refl _ _).alloc (Nat.le_refl _) _).alloc (by simp) _⟩⟩
    have h := GridAt.new (w.alloc (.cells (gc fun _ => false) 66)) (fun _ => false)
    simp only [World.size_alloc] at h
    exact h.congr (fun p _ => by simp [gso])
  case round =>
    obtain ⟨y, rfl, hy, hg, hg2, hb⟩ := hrel
    clear hst
    by_cases hlt : y < 16
    · have hdy : decide ((y : Int) < 16) = true := by simp; omega
      go_wp2
      go_loopw [10] (fun v10 W => ∃ x : Nat, v10 = .int .i64 x ∧ x ≤ 16 ∧ GridAt W (w.heap.size + 1) (gso so (16 * y + x)) ∧ GridAt W w.heap.size (fun _ => false) ∧ Aside0 (Below w.heap.size w W)) (fun v10 _ => 16 - (intOf v10).toNat)
      case atStart => exact ⟨0, rfl, by omega, hg, hg2, hb⟩
      case round =>
        clear hg hg2 hb
        obtain ⟨x, rfl, hx, hg, hg2, hb⟩ := hrel
        by_cases hlx : x < 16
        · have hdx : decide ((x : Int) < 16) = true := by simp; omega
          go_wp2
          go_region_with (first | (go_at_fn q; refine (HP.out _ x y hlx hlt (by first | exact hb.out | exact below_drew hb.out | exact pw_below_drewN hb.out _)).mono ?_; rintro e w' ⟨rfl, hb2⟩; have hgn := Aside0.mk (blk_below (w := wr.drew) hg hb2); have hgn2 := Aside0.mk (blk_below (w := wr.drew) hg2 hb2); have hbn := Aside0.mk (below_then (below_drew hb.out) (below_drew hb.out).size hb2); have hc1 := GridAt.cell hgn.out (y * 16 + x) (by omega); have hf1 := GridAt.free hgn.out (y * 16 + x); clear hb2))
          all_goals
            go_wp2
            go_roundw
            case rel => exact ⟨x + 1, by go_num, by omega, (GridAt.set_ hgn.out (y * 16 + x) (so x y)).congr (fun p _ => gso_step so x y hlx p), blk_far hgn2.out (by simp) _, ⟨below_set hbn.out (by omega)⟩⟩
            case measure => simp [intOf]; omega
        · have hdx : decide ((x : Int) < 16) = false := by simp; omega
          have hx16 : x = 16 := by omega
          subst hx16
          go_wp2
          go_roundw
          case rel => exact ⟨y + 1, by go_num, by omega, hg.congr (fun p _ => by rw [Nat.mul_add]), hg2, hb⟩
          case measure => simp [intOf]; omega
    · have hdy : decide ((y : Int) < 16) = false := by simp; omega
      have hy16 : y = 16 := by omega
      subst hy16
      have hg' : wr.heap[w.heap.size + 1]? = some (.cells (gc (gso so 256)) 66 (0, 0)) := hg
      have hg2' : wr.heap[w.heap.size]? = some (.cells (gc fun _ => false) 66 (0, 0)) := hg2
      have hi : (Try.prog.info? 66).map (·.size) = some (gc (gso so 256)).size := by rw [gc_size]; exact info66
      have hold : (gc fun _ => false).size = (gc (gso so 256)).size := by rw [gc_size, gc_size]
      have h1 := gc_one (gso so 256)
      go_wp2_with (first
        | ((with_reducible refine gate_dst (N := 23) rfl ?_); refine wpList_load_row rfl 66 (.tmp 3) rfl (w.heap.size + 1) rfl 66 (gc (gso so 256)) (0, 0) (.array 16 64) hg' underlying66 rfl hi ?_)
        | ((with_reducible refine wpList_store_row rfl 66 (.tmp 2) (.tmp 23) rfl w.heap.size (gc (gso so 256)) ?hx ?hy 66 (gc fun _ => false) hg2' hi hold h1 ?_); (case hx => rfl); (case hy => rfl)))
      refine bodyPost_ret (results_cell_row rfl _ _ w.heap.size 66 (gc (gso so 256)) (0, 0) (.array 16 64) rfl (hg2.setRow (gso so 256)) underlying66 rfl hi) rfl ?_
      exact ⟨rfl, below_setRow hb.out (Nat.le_refl _) _⟩
end Go.Proofs.Ytfgeickfheogoaa.Q

/- (impl.grid).edge: the pixels of a grid that have a neighbour that is not in it. -/
namespace Go.Proofs.Ytfgeickfheogoaa.Q
open Go.RowKit Go.Proofs.YtfgeickfheogoaaW.PrintWords Go.Proofs.YtfgeickfheogoaaW.PrintLast Go.Proofs.YtfgeickfheogoaaW.PrintMore
attribute [local go_sem] max2_int min2_int max_two min_two max_three min_three max_four min_four
set_option linter.unusedVariables false
set_option linter.unusedSimpArgs false

/-- whether pixel p of a grid is at its edge -/
def edgeP (g : Nat → Bool) (x y : Nat) : Bool := g (y * 16 + x) && !(nbAll (hasP g) (x : Int) (y : Int))

set_option maxHeartbeats 1600000 in
set_option maxRecDepth 100000 in
theorem edge1_calls (g : Nat → Bool) (x y : Nat) (hx : x < 16) (hy : y < 16) (B : Nat) (w : World) (hg : GridAt w B g) :
    Calls Try.prog 83 #[.int .i64 (x : Int), .int .i64 (y : Int), .pointer (some ⟨B, 0, none⟩)] w fun e w' => e = .returned (.bool (edgeP g x y)) ∧ Below w.heap.size w w' := by
  have hgs := gc_size g
  have hcg := hg.cell (y * 16 + x) (by omega)
  have HN := Aside0.mk (neighbours_calls (x : Int) (y : Int) (by omega))
  have HG := Aside0.mk hg
  have HI := Aside0.mk (show (Try.prog.info? 66).map (·.size) = some (gc g).size by rw [gc_size]; exact info66)
  clear hg
  by_cases hp : g (y * 16 + x) = true
  · rw [hp] at hcg
    go_enter Try.func83, Try.ntmps83
    go_wp2_with (first
      | (go_at_call 84; refine (HN.out _).mono ?_; rintro e w1 ⟨rfl, hb1⟩; have HB1 := Aside0.mk hb1; clear hb1))
    unfold nbv
    go_loopw [17] (fun v17 W => ∃ i : Nat, v17 = .int .i64 i ∧ i ≤ 4 ∧ Aside0 (∀ j, j < i → hasP g (nbI x y j).1 (nbI x y j).2 = true) ∧ Aside0 (Below w.heap.size w W)) (fun v17 _ => 4 - (intOf v17).toNat)
    case atStart => exact ⟨0, rfl, by omega, ⟨fun j hj => absurd hj (by omega)⟩, HB1⟩
    case round =>
      obtain ⟨i, rfl, hi, HA, HB⟩ := hrel
      obtain ⟨wo, rfl⟩ : ∃ wo : World, wo = wr := ⟨_, rfl⟩
      have HGW := Aside0.mk (HG.out.below HB.out)
      have hg' : wo.heap[B]? = some (.cells (gc g) 66 (0, 0)) := HGW.out
      by_cases h4 : i = 4
      · subst h4
        have HE := Aside0.mk (show edgeP g x y = false by unfold edgeP; rw [hp, nbAll_yes (fun i hi => HA.out i hi)]; rfl)
        go_wp2
        go_ret
        exact ⟨by rw [HE.out]; rfl, HB.out⟩
      · have hall : ∀ (nx ny : Int), nbI x y i = (nx, ny) → True := fun _ _ _ => trivial
        obtain h | h | h | h : i = 0 ∨ i = 1 ∨ i = 2 ∨ i = 3 := by omega
        all_goals subst h
        · clear hall
          have hn : nbI x y 0 = ((x : Int) - 1, (y : Int)) := rfl
          cases hv : hasP g ((x : Int) - 1) ((y : Int)) with
          | true =>
            have HC := Aside0.mk (fun W => has_calls g ((x : Int) - 1) ((y : Int)) W)
            rw [hv] at HC
            have HV := Aside0.mk hv
            clear hv
            go_wp2_with (first
              | ((with_reducible refine gate_dst (N := 19) rfl ?_); refine Kd.event_run (v := .agg #[.int .i64 ((x : Int) - 1), .int .i64 ((y : Int))]) (w1 := wo) rfl (by kernel_rfl) ?_)
              | ((with_reducible refine gate_dst (N := 20) rfl ?_); refine wpList_load_row rfl 66 (.tmp 2) rfl B rfl 66 (gc g) (0, 0) (.array 16 64) (blk_alloc hg' _) underlying66 rfl HI.out ?_)
              | (go_at_call 60; refine (HC.out _).mono ?_; rintro e w2 ⟨rfl, hb2⟩; have HB2 := Aside0.mk (below_then (below_alloc HB.out _) (below_alloc HB.out _).size hb2); clear hb2))
            go_roundw
            case rel => exact ⟨0+1, by go_num, by omega, ⟨fun j hj => by
              by_cases e : j = 0
              · subst e; exact HV.out
              · exact HA.out j (by omega)⟩, HB2⟩
            case measure => simp [intOf]
          | false =>
            have HC := Aside0.mk (fun W => has_calls g ((x : Int) - 1) ((y : Int)) W)
            rw [hv] at HC
            have HE := Aside0.mk (show edgeP g x y = true by unfold edgeP; rw [hp, nbAll_no 0 (by omega) hv]; rfl)
            clear hv
            go_wp2_with (first
              | ((with_reducible refine gate_dst (N := 19) rfl ?_); refine Kd.event_run (v := .agg #[.int .i64 ((x : Int) - 1), .int .i64 ((y : Int))]) (w1 := wo) rfl (by kernel_rfl) ?_)
              | ((with_reducible refine gate_dst (N := 20) rfl ?_); refine wpList_load_row rfl 66 (.tmp 2) rfl B rfl 66 (gc g) (0, 0) (.array 16 64) (blk_alloc hg' _) underlying66 rfl HI.out ?_)
              | (go_at_call 60; refine (HC.out _).mono ?_; rintro e w2 ⟨rfl, hb2⟩; have HB2 := Aside0.mk (below_then (below_alloc HB.out _) (below_alloc HB.out _).size hb2); clear hb2))
            go_ret
            exact ⟨by rw [HE.out]; rfl, HB2.out⟩
        · clear hall
          have hn : nbI x y 1 = ((x : Int) + 1, (y : Int)) := rfl
          cases hv : hasP g ((x : Int) + 1) ((y : Int)) with
          | true =>
            have HC := Aside0.mk (fun W => has_calls g ((x : Int) + 1) ((y : Int)) W)
            rw [hv] at HC
            have HV := Aside0.mk hv
            clear hv
            go_wp2_with (first
              | ((with_reducible refine gate_dst (N := 19) rfl ?_); refine Kd.event_run (v := .agg #[.int .i64 ((x : Int) + 1), .int .i64 ((y : Int))]) (w1 := wo) rfl (by kernel_rfl) ?_)
              | ((with_reducible refine gate_dst (N := 20) rfl ?_); refine wpList_load_row rfl 66 (.tmp 2) rfl B rfl 66 (gc g) (0, 0) (.array 16 64) (blk_alloc hg' _) underlying66 rfl HI.out ?_)
              | (go_at_call 60; refine (HC.out _).mono ?_; rintro e w2 ⟨rfl, hb2⟩; have HB2 := Aside0.mk (below_then (below_alloc HB.out _) (below_alloc HB.out _).size hb2); clear hb2))
            go_roundw
            case rel => exact ⟨1+1, by go_num, by omega, ⟨fun j hj => by
              by_cases e : j = 1
              · subst e; exact HV.out
              · exact HA.out j (by omega)⟩, HB2⟩
            case measure => simp [intOf]
          | false =>
            have HC := Aside0.mk (fun W => has_calls g ((x : Int) + 1) ((y : Int)) W)
            rw [hv] at HC
            have HE := Aside0.mk (show edgeP g x y = true by unfold edgeP; rw [hp, nbAll_no 1 (by omega) hv]; rfl)
            clear hv
            go_wp2_with (first
              | ((with_reducible refine gate_dst (N := 19) rfl ?_); refine Kd.event_run (v := .agg #[.int .i64 ((x : Int) + 1), .int .i64 ((y : Int))]) (w1 := wo) rfl (by kernel_rfl) ?_)
              | ((with_reducible refine gate_dst (N := 20) rfl ?_); refine wpList_load_row rfl 66 (.tmp 2) rfl B rfl 66 (gc g) (0, 0) (.array 16 64) (blk_alloc hg' _) underlying66 rfl HI.out ?_)
              | (go_at_call 60; refine (HC.out _).mono ?_; rintro e w2 ⟨rfl, hb2⟩; have HB2 := Aside0.mk (below_then (below_alloc HB.out _) (below_alloc HB.out _).size hb2); clear hb2))
            go_ret
            exact ⟨by rw [HE.out]; rfl, HB2.out⟩
        · clear hall
          have hn : nbI x y 2 = ((x : Int), (y : Int) - 1) := rfl
          cases hv : hasP g ((x : Int)) ((y : Int) - 1) with
          | true =>
            have HC := Aside0.mk (fun W => has_calls g ((x : Int)) ((y : Int) - 1) W)
            rw [hv] at HC
            have HV := Aside0.mk hv
            clear hv
            go_wp2_with (first
              | ((with_reducible refine gate_dst (N := 19) rfl ?_); refine Kd.event_run (v := .agg #[.int .i64 ((x : Int)), .int .i64 ((y : Int) - 1)]) (w1 := wo) rfl (by kernel_rfl) ?_)
              | ((with_reducible refine gate_dst (N := 20) rfl ?_); refine wpList_load_row rfl 66 (.tmp 2) rfl B rfl 66 (gc g) (0, 0) (.array 16 64) (blk_alloc hg' _) underlying66 rfl HI.out ?_)
              | (go_at_call 60; refine (HC.out _).mono ?_; rintro e w2 ⟨rfl, hb2⟩; have HB2 := Aside0.mk (below_then (below_alloc HB.out _) (below_alloc HB.out _).size hb2); clear hb2))
            go_roundw
            case rel => exact ⟨2+1, by go_num, by omega, ⟨fun j hj => by
              by_cases e : j = 2
              · subst e; exact HV.out
              · exact HA.out j (by omega)⟩, HB2⟩
            case measure => simp [intOf]
          | false =>
            have HC := Aside0.mk (fun W => has_calls g ((x : Int)) ((y : Int) - 1) W)
            rw [hv] at HC
            have HE := Aside0.mk (show edgeP g x y = true by unfold edgeP; rw [hp, nbAll_no 2 (by omega) hv]; rfl)
            clear hv
            go_wp2_with (first
              | ((with_reducible refine gate_dst (N := 19) rfl ?_); refine Kd.event_run (v := .agg #[.int .i64 ((x : Int)), .int .i64 ((y : Int) - 1)]) (w1 := wo) rfl (by kernel_rfl) ?_)
              | ((with_reducible refine gate_dst (N := 20) rfl ?_); refine wpList_load_row rfl 66 (.tmp 2) rfl B rfl 66 (gc g) (0, 0) (.array 16 64) (blk_alloc hg' _) underlying66 rfl HI.out ?_)
              | (go_at_call 60; refine (HC.out _).mono ?_; rintro e w2 ⟨rfl, hb2⟩; have HB2 := Aside0.mk (below_then (below_alloc HB.out _) (below_alloc HB.out _).size hb2); clear hb2))
            go_ret
            exact ⟨by rw [HE.out]; rfl, HB2.out⟩
        · clear hall
          have hn : nbI x y 3 = ((x : Int), (y : Int) + 1) := rfl
          cases hv : hasP g ((x : Int)) ((y : Int) + 1) with
          | true =>
            have HC := Aside0.mk (fun W => has_calls g ((x : Int)) ((y : Int) + 1) W)
            rw [hv] at HC
            have HV := Aside0.mk hv
            clear hv
            go_wp2_with (first
              | ((with_reducible refine gate_dst (N := 19) rfl ?_); refine Kd.event_run (v := .agg #[.int .i64 ((x : Int)), .int .i64 ((y : Int) + 1)]) (w1 := wo) rfl (by kernel_rfl) ?_)
              | ((with_reducible refine gate_dst (N := 20) rfl ?_); refine wpList_load_row rfl 66 (.tmp 2) rfl B rfl 66 (gc g) (0, 0) (.array 16 64) (blk_alloc hg' _) underlying66 rfl HI.out ?_)
              | (go_at_call 60; refine (HC.out _).mono ?_; rintro e w2 ⟨rfl, hb2⟩; have HB2 := Aside0.mk (below_then (below_alloc HB.out _) (below_alloc HB.out _).size hb2); clear hb2))
            go_roundw
            case rel => exact ⟨3+1, by go_num, by omega, ⟨fun j hj => by
              by_cases e : j = 3
              · subst e; exact HV.out
              · exact HA.out j (by omega)⟩, HB2⟩
            case measure => simp [intOf]
          | false =>
            have HC := Aside0.mk (fun W => has_calls g ((x : Int)) ((y : Int) + 1) W)
            rw [hv] at HC
            have HE := Aside0.mk (show edgeP g x y = true by unfold edgeP; rw [hp, nbAll_no 3 (by omega) hv]; rfl)
            clear hv
            go_wp2_with (first
              | ((with_reducible refine gate_dst (N := 19) rfl ?_); refine Kd.event_run (v := .agg #[.int .i64 ((x : Int)), .int .i64 ((y : Int) + 1)]) (w1 := wo) rfl (by kernel_rfl) ?_)
              | ((with_reducible refine gate_dst (N := 20) rfl ?_); refine wpList_load_row rfl 66 (.tmp 2) rfl B rfl 66 (gc g) (0, 0) (.array 16 64) (blk_alloc hg' _) underlying66 rfl HI.out ?_)
              | (go_at_call 60; refine (HC.out _).mono ?_; rintro e w2 ⟨rfl, hb2⟩; have HB2 := Aside0.mk (below_then (below_alloc HB.out _) (below_alloc HB.out _).size hb2); clear hb2))
            go_ret
            exact ⟨by rw [HE.out]; rfl, HB2.out⟩
  · replace hp : g (y * 16 + x) = false := by simpa using hp
    rw [hp] at hcg
    have hE : edgeP g x y = false := by unfold edgeP; rw [hp]; rfl
    go_enter Try.func83, Try.ntmps83
    go_wp2
    go_ret
    exact ⟨by rw [hE]; rfl, Below.refl _ _⟩

set_option maxHeartbeats 1600000 in
set_option maxRecDepth 100000 in
theorem edge_calls (g : Nat → Bool) (w : World) :
    Calls Try.prog 72 #[.agg (gc g)] w fun e w' => e = .returned (.agg (gc (gso (edgeP g) 256))) ∧ Below w.heap.size w w' := by
  have z0 := zero66
  have HB := Aside0.mk (below_alloc (below_alloc (Below.refl w.heap.size w) (.cells (gc g) 66)) (.cells (gc fun _ => false) 66))
  have HG := Aside0.mk ((GridAt.new w g).alloc (.cells (gc fun _ => false) 66))
  have HZ := Aside0.mk (GridAt.new (w.alloc (.cells (gc g) 66)) (fun _ => false))
  simp only [World.size_alloc] at HZ
  have HSZ := Aside0.mk (show (gc fun _ => false).size = (gc (gso (edgeP g) 256)).size by rw [gc_size, gc_size])
  have HO := Aside0.mk (gc_one (gso (edgeP g) 256))
  have HI := Aside0.mk (show (Try.prog.info? 66).map (·.size) = some (gc (gso (edgeP g) 256)).size by rw [gc_size]; exact info66)
  go_enter Try.func72, Try.ntmps72
  go_wp2_with (first
    | (go_at_call 62; refine (gridBy_calls 83 #[.pointer (some ⟨w.heap.size, 0, none⟩)] (edgeP g) ((w.alloc (.cells (gc g) 66)).alloc (.cells (gc fun _ => false) 66)) (enters_of Try.func83 (by kernel_rfl) rfl) (fun W x y hx hy hW => edge1_calls g x y hx hy w.heap.size W (HG.out.below hW))).mono ?_; rintro e w2 ⟨rfl, hb2⟩; have HZ2 : Aside0 (w2.heap[w.heap.size + 1]? = some (.cells (gc fun _ => false) 66 (0, 0))) := Aside0.mk (HZ.out.below hb2); have HB2 := Aside0.mk (below_then HB.out HB.out.size hb2); clear hb2)
    | ((with_reducible refine wpList_store_row rfl 66 (.tmp 2) (.tmp 4) rfl (w.heap.size + 1) (gc (gso (edgeP g) 256)) ?hx ?hy 66 (gc fun _ => false) HZ2.out HI.out HSZ.out HO.out ?_); (case hx => rfl); (case hy => rfl)))
  refine bodyPost_ret (results_cell_row rfl _ _ (w.heap.size + 1) 66 (gc (gso (edgeP g) 256)) (0, 0) (.array 16 64) rfl (GridAt.setRow (g := fun _ => false) HZ2.out (gso (edgeP g) 256)) underlying66 rfl HI.out) rfl ?_
  exact ⟨rfl, below_setRow HB2.out (Nat.le_succ _) _⟩
end Go.Proofs.Ytfgeickfheogoaa.Q

/- impl.gridOf: the grid of runs that are in range. -/
namespace Go.Proofs.Ytfgeickfheogoaa.Q
open Go.RowKit Go.Proofs.YtfgeickfheogoaaW.PrintWords Go.Proofs.YtfgeickfheogoaaW.PrintLast Go.Proofs.YtfgeickfheogoaaW.PrintMore
attribute [local go_sem] max2_int min2_int max_two min_two max_three min_three max_four min_four
set_option linter.unusedVariables false
set_option linter.unusedSimpArgs false

def runIn (r : S57) (p : Nat) : Bool := decide (r.f0 = ((p / 16 : Nat) : Int)) && decide (r.f1 ≤ ((p % 16 : Nat) : Int)) && decide (((p % 16 : Nat) : Int) < r.f2)
def gridF (l : List S57) (p : Nat) : Bool := l.any fun r => runIn r p
theorem gridF_succ (l : List S57) (k : Nat) (h : k < l.length) (p : Nat) : gridF (l.take (k + 1)) p = (gridF (l.take k) p || runIn l[k] p) := by
  unfold gridF
  rw [List.take_succ_eq_append_getElem h, List.any_append]; simp
/-- a run's pixels before column x -/
def runTo (r : S57) (x : Nat) (p : Nat) : Bool := decide (r.f0 = ((p / 16 : Nat) : Int)) && decide (r.f1 ≤ ((p % 16 : Nat) : Int)) && decide (p % 16 < x)
theorem runTo_step (r : S57) (Y x : Nat) (hY : r.f0 = (Y : Int)) (hx : x < 16) (hF : r.f1 ≤ (x : Int)) (g : Nat → Bool) (p : Nat) :
    (if p = Y * 16 + x then true else (g p || runTo r x p)) = (g p || runTo r (x + 1) p) := by
  unfold runTo
  by_cases e : p = Y * 16 + x
  · rw [if_pos e]
    have h1 : p % 16 = x := by omega
    have h2 : p / 16 = Y := by omega
    rw [h1, h2, hY]
    simp [hF]
  · rw [if_neg e]
    congr 1
    by_cases c1 : r.f0 = ((p / 16 : Nat) : Int)
    · have : decide (p % 16 < x) = decide (p % 16 < x + 1) := by
        rw [decide_eq_decide]
        have : p % 16 ≠ x := by omega
        omega
      rw [this]
    · rw [decide_eq_false c1, Bool.false_and, Bool.false_and, Bool.false_and]

set_option maxHeartbeats 8000000 in
set_option maxRecDepth 100000 in
theorem gridOf_calls (A0 : Option Addr) (c0 : Nat) (l0 : List S57) (w : World) (hr0 : Kd.C k57 w A0 l0.length l0) (hok : ∀ r ∈ l0, 0 ≤ r.f0 ∧ r.f0 < 16 ∧ 0 ≤ r.f1 ∧ r.f2 ≤ 16) :
    Calls Try.prog 59 #[.slice A0 l0.length c0] w fun e w' => e = .returned (.agg (gc (gridF l0))) ∧ Below w.heap.size w w' := by
  have hm : l0.length ≤ 9223372036854775807 := hr0.2.1
  have HR := Aside0.mk hr0
  have HOK := Aside0.mk hok
  clear hr0 hok
  have hu := Try.underlying57
  have z0 := zero66
  have hst := run_storeCells_new (P := Try.prog) (w.alloc (.cells (gc fun _ => false) 66)) 66 (gc fun _ => false) (gc fun _ => false) (by rw [gc_size]; exact info66) rfl (gc_one _)
  simp only [World.size_alloc] at hst
  go_enter Try.func59, Try.ntmps59
  go_wp2
  go_loopw [10] (fun v10 W => ∃ k : Nat, v10 = .int .i64 k ∧ k ≤ l0.length ∧ GridAt W (w.heap.size + 1) (gridF (l0.take k)) ∧ GridAt W w.heap.size (fun _ => false) ∧ Aside0 (Below w.heap.size w W)) (fun v10 _ => l0.length - (intOf v10).toNat)
  case atStart =>
    refine ⟨0, rfl, by omega, ?_, (GridAt.new _ _).alloc _, ⟨((Below.refl _ _).alloc (Nat.le_refl _) _).alloc (by simp) _⟩⟩
    have h := GridAt.new (w.alloc (.cells (gc fun _ => false) 66)) (fun _ => false)
    simp only [World.size_alloc] at h
    exact h.congr (fun p _ => by simp [gridF])
  case round =>
    obtain ⟨k, rfl, hk, hg, hg2, hb⟩ := hrel
    clear hst
    obtain ⟨wo, rfl⟩ : ∃ wo : World, wo = wr := ⟨_, rfl⟩
    by_cases hlt : k < l0.length
    · have hdk : decide ((k : Int) < (l0.length : Int)) = true := by simp; omega
      obtain ⟨ad, e, hx0, hx1, hx2⟩ := at_T57 HR.out (k : Int) (by omega) (by omega)
      cases e
      have er : rd_T57 l0 (k : Int) = l0[k] := by simp [rd_T57, hlt]
      have ho := HOK.out l0[k] (List.getElem_mem hlt)
      have HGS := Aside0.mk (gridF_succ l0 k hlt)
      rw [er, Int.toNat_natCast] at hx0 hx1 hx2
      clear er
      generalize l0[k] = r at *
      obtain ⟨Y, hY⟩ := Int.eq_ofNat_of_zero_le ho.1
      obtain ⟨F, hF⟩ := Int.eq_ofNat_of_zero_le ho.2.2.1
      have ho2 := ho.2.1
      have ho4 := ho.2.2.2
      clear ho
      rw [hY] at hx0 ho2
      rw [hF] at hx1
      replace hx0 := (hb.out.cell (World.block_lt_of_cell? w _ hx0)).trans hx0
      replace hx1 := (hb.out.cell (World.block_lt_of_cell? w _ hx1)).trans hx1
      replace hx2 := (hb.out.cell (World.block_lt_of_cell? w _ hx2)).trans hx2
      have HY := Aside0.mk hY
      have HF := Aside0.mk hF
      clear hY hF
      go_wp2
      have hlt2 := hg.lt
      go_loopw [6] (fun v6 W => ∃ x : Nat, v6 = .int .i64 x ∧ F ≤ x ∧ ((x : Int) ≤ r.f2 ∨ x = F) ∧ GridAt W (w.heap.size + 1) (fun p => gridF (l0.take k) p || runTo r x p) ∧ GridAt W w.heap.size (fun _ => false) ∧ Aside0 (W.heap[wo.heap.size]? = some (.cells #[.int .i64 (Y : Int), .int .i64 (F : Int), .int .i64 r.f2] 57 (0, 0))) ∧ Aside0 (Below w.heap.size w W)) (fun v6 _ => 17 - (intOf v6).toNat + (r.f2 - (intOf v6)).toNat)
      case atStart =>
        refine ⟨F, rfl, Nat.le_refl _, .inr rfl, (hg.alloc _).congr (fun p _ => ?_), hg2.alloc _, ⟨blk_new _ _⟩, ⟨below_alloc hb.out _⟩⟩
        have : runTo r F p = false := by
          unfold runTo
          rw [HF.out]
          by_cases c : ((F : Nat) : Int) ≤ ((p % 16 : Nat) : Int)
          · rw [decide_eq_false (show ¬ p % 16 < F by omega), Bool.and_false]
          · rw [decide_eq_false c, Bool.and_false, Bool.false_and]
        rw [this, Bool.or_false]
      case round =>
        clear hg hg2 hb
        obtain ⟨x, rfl, hFx, hx, hg, hg2, hr, hb⟩ := hrel
        have hc0 : wr.cell? ⟨wo.heap.size, 0, none⟩ = some (.int .i64 (Y : Int)) := (blk_cell hr.out 0).trans rfl
        have hc2 : wr.cell? ⟨wo.heap.size, 2, none⟩ = some (.int .i64 r.f2) := (blk_cell hr.out 2).trans rfl
        by_cases hxt : (x : Int) < r.f2
        · have hdx : decide ((x : Int) < r.f2) = true := by simpa using hxt
          have hcg := hg.cell (Y * 16 + x) (by omega)
          have hfg := hg.free (Y * 16 + x)
          have hx16 : x < 16 := by omega
          go_wp2
          go_roundw
          case rel => exact ⟨x + 1, by go_num, by omega, .inl (by omega), (hg.set_ (Y * 16 + x) true).congr (fun p _ => runTo_step r Y x HY.out hx16 (by rw [HF.out]; omega) _ p), blk_far hg2 (by simp) _, ⟨blk_far hr.out (by simp; omega) _⟩, ⟨below_set hb.out (by omega)⟩⟩
          case measure => simp [intOf]; omega
        · have hdx : decide ((x : Int) < r.f2) = false := by simpa using hxt
          go_wp2
          go_roundw
          case rel =>
            refine ⟨k + 1, by go_num, by omega, hg.congr (fun p _ => ?_), hg2, hb⟩
            rw [HGS.out]
            congr 1
            unfold runTo runIn
            rw [HF.out]
            by_cases c : ((F : Nat) : Int) ≤ ((p % 16 : Nat) : Int)
            · congr 1
              rw [decide_eq_decide]
              omega
            · rw [decide_eq_false c, Bool.and_false, Bool.false_and, Bool.false_and]
          case measure => simp [intOf]; omega
    · have hdk : decide ((k : Int) < (l0.length : Int)) = false := by simp; omega
      have hkl : k = l0.length := by omega
      subst hkl
      have hi : (Try.prog.info? 66).map (·.size) = some (gc (gridF l0)).size := by rw [gc_size]; exact info66
      have hold : (gc fun _ => false).size = (gc (gridF l0)).size := by rw [gc_size, gc_size]
      have h1 := gc_one (gridF l0)
      rw [List.take_length] at hg
      have hg' : wo.heap[w.heap.size + 1]? = some (.cells (gc (gridF l0)) 66 (0, 0)) := hg
      have hg2' : wo.heap[w.heap.size]? = some (.cells (gc fun _ => false) 66 (0, 0)) := hg2
      go_wp2_with (first
        | ((with_reducible refine gate_dst (N := 28) rfl ?_); refine wpList_load_row rfl 66 (.tmp 3) rfl (w.heap.size + 1) rfl 66 (gc (gridF l0)) (0, 0) (.array 16 64) hg' underlying66 rfl hi ?_)
        | ((with_reducible refine wpList_store_row rfl 66 (.tmp 2) (.tmp 28) rfl w.heap.size (gc (gridF l0)) ?hx ?hy 66 (gc fun _ => false) hg2' hi hold h1 ?_); (case hx => rfl); (case hy => rfl)))
      refine bodyPost_ret (results_cell_row rfl _ _ w.heap.size 66 (gc (gridF l0)) (0, 0) (.array 16 64) rfl (hg2.setRow (gridF l0)) underlying66 rfl hi) rfl ?_
      exact ⟨rfl, below_setRow hb.out (Nat.le_refl _) _⟩
end Go.Proofs.Ytfgeickfheogoaa.Q

/- (impl.grid).runs: the runs of a grid, row by row. -/
namespace Go.Proofs.Ytfgeickfheogoaa.Q
open Go.RowKit Go.Proofs.YtfgeickfheogoaaW.PrintWords Go.Proofs.YtfgeickfheogoaaW.PrintLast Go.Proofs.YtfgeickfheogoaaW.PrintMore
attribute [local go_sem] max2_int min2_int max_two min_two max_three min_three max_four min_four
set_option linter.unusedVariables false
set_option linter.unusedSimpArgs false

/-- the end of the run that begins at x or before -/
def endAt (g : Nat → Bool) (y : Nat) : Nat → Nat → Nat
  | 0, x => x
  | n + 1, x => if x < 16 ∧ g (y * 16 + x) = true then endAt g y n (x + 1) else x
theorem endAt_ge (g : Nat → Bool) (y n x : Nat) : x ≤ endAt g y n x := by
  induction n generalizing x with
  | zero => exact Nat.le_refl _
  | succ n ih =>
    unfold endAt
    split
    · exact Nat.le_trans (Nat.le_succ x) (ih (x + 1))
    · exact Nat.le_refl _
/-- the runs of a row from column x on -/
def scanRow (g : Nat → Bool) (y x : Nat) : List S57 :=
  if _h : x < 16 then
    if g (y * 16 + x) = true then ⟨(y : Int), (x : Int), (endAt g y (16 - x) x : Nat)⟩ :: scanRow g y (endAt g y (16 - x) x + 1)
    else scanRow g y (x + 1)
  else []
  termination_by 16 - x
  decreasing_by
    · have := endAt_ge g y (16 - x) x; omega
    · omega
def runsTo (g : Nat → Bool) (y : Nat) : List S57 := (List.range y).flatMap fun y => scanRow g y 0
/-- the runs of a grid -/
def runsL (g : Nat → Bool) : List S57 := runsTo g 16
theorem runsTo_succ (g : Nat → Bool) (y : Nat) : runsTo g (y + 1) = runsTo g y ++ scanRow g y 0 := by
  simp [runsTo, List.range_succ]
theorem scan_true (g : Nat → Bool) (y x : Nat) (h : x < 16) (hg : g (y * 16 + x) = true) : scanRow g y x = ⟨(y : Int), (x : Int), (endAt g y (16 - x) x : Nat)⟩ :: scanRow g y (endAt g y (16 - x) x + 1) := by
  rw [scanRow, dif_pos h, if_pos hg]
theorem scan_false (g : Nat → Bool) (y x : Nat) (h : x < 16) (hg : g (y * 16 + x) = false) : scanRow g y x = scanRow g y (x + 1) := by
  rw [scanRow, dif_pos h, if_neg (by simp [hg])]
theorem scan_end (g : Nat → Bool) (y x : Nat) (h : 16 ≤ x) : scanRow g y x = [] := by
  rw [scanRow, dif_neg (by omega)]
theorem endAt_step (g : Nat → Bool) (y x : Nat) (h : x < 16) (hg : g (y * 16 + x) = true) : endAt g y (16 - x) x = endAt g y (16 - (x + 1)) (x + 1) := by
  rw [show 16 - x = (16 - (x + 1)) + 1 by omega]
  rw [endAt, if_pos ⟨h, hg⟩]
theorem endAt_stop (g : Nat → Bool) (y x : Nat) (h : 16 ≤ x ∨ g (y * 16 + x) = false) : endAt g y (16 - x) x = x := by
  cases hn : 16 - x with
  | zero => rfl
  | succ n => rw [endAt, if_neg (by rcases h with h | h; omega; simp [h])]

set_option maxHeartbeats 4000000 in
set_option maxRecDepth 100000 in
theorem runs_calls (g : Nat → Bool) (w : World) :
    Calls Try.prog 65 #[.agg (gc g)] w fun e w' => ∃ v0_ : Value, e = .returned (v0_) ∧ Kd.R k57 57 w' w.heap.size (fun _ => True) v0_ (runsL g) ∧ Below w.heap.size w w' := by
  have hu := Try.underlying57
  have hgs := gc_size g
  go_enter Try.func65, Try.ntmps65
  go_wp2
  go_loopw [3, 8] (fun v3 v8 W => ∃ y : Nat, v8 = .int .i64 y ∧ y ≤ 16 ∧ Aside0 (Kd.R k57 57 W w.heap.size (fun _ => True) v3 (runsTo g y) ∧ (runsTo g y).length ≤ 17 * y) ∧ GridAt W w.heap.size g ∧ Aside0 (Below w.heap.size w W)) (fun _ v8 _ => 16 - (intOf v8).toNat)
  case atStart =>
    have h := R_empty k57 57 w.heap.size (w.alloc (.cells (gc g) 66)) (by simp)
    simp only [World.size_alloc] at h
    exact ⟨0, rfl, by omega, ⟨h, by simp [runsTo]⟩, (GridAt.new _ _).alloc _, ⟨((Below.refl _ _).alloc (Nat.le_refl _) _).alloc (by simp) _⟩⟩
  case round =>
    obtain ⟨y, rfl, hy, hR, hg, hb⟩ := hrel
    by_cases hlt : y < 16
    · have hdy : decide ((y : Int) < 16) = true := by simp; omega
      go_wp2
      go_loopw [3, 5] (fun v3 v5 W => ∃ (x : Nat) (xs : List S57), v5 = .int .i64 x ∧ x ≤ 17 ∧ Aside0 (Kd.R k57 57 W w.heap.size (fun _ => True) v3 xs ∧ xs.length ≤ 17 * y + x ∧ xs ++ scanRow g y x = runsTo g (y + 1)) ∧ GridAt W w.heap.size g ∧ Aside0 (Below w.heap.size w W)) (fun _ v5 _ => 17 - (intOf v5).toNat)
      case atStart => exact ⟨0, _, rfl, by omega, ⟨hR.out.1, by have := hR.out.2; omega, (runsTo_succ g y).symm⟩, hg, hb⟩
      case round =>
        clear hR hg hb
        obtain ⟨x, xs, rfl, hx, hR, hg, hb⟩ := hrel
        by_cases hlx : x < 16
        · have hdx : decide ((x : Int) < 16) = true := by simp; omega
          have hc := hg.cell (y * 16 + x) (by omega)
          by_cases hv : g (y * 16 + x) = true
          · rw [hv] at hc
            have hs := scan_true g y x hlx hv
            have HS := Aside0.mk hs
            clear hs
            go_wp2
            go_loop [5] (fun v5 => ∃ z : Nat, v5 = .int .i64 z ∧ x ≤ z ∧ z ≤ 16 ∧ Aside0 (endAt g y (16 - z) z = endAt g y (16 - x) x)) (fun v5 => 16 - (intOf v5).toNat)
            case atStart => exact ⟨x, rfl, by omega, by omega, ⟨rfl⟩⟩
            case round =>
              clear hc
              obtain ⟨z, rfl, hxz, hz, hE⟩ := hrel
              have hgz := hg.alloc (.cells #[.int .i64 (y : Int), .int .i64 (x : Int), .int .i64 0] 57)
              by_cases hz16 : z < 16 ∧ g (y * 16 + z) = true
              · obtain ⟨hlz, hvz⟩ := hz16
                have hdz : decide ((z : Int) < 16) = true := by simp; omega
                have hc := hgz.cell (y * 16 + z) (by omega)
                rw [hvz] at hc
                have hE2 := Aside0.mk ((endAt_step g y z hlz hvz).symm.trans hE.out)
                clear hvz hE
                go_wp2
                go_round
                case rel => exact ⟨z + 1, by go_num, by omega, by omega, hE2⟩
                case measure => simp [intOf]; omega
              · have hz17 : 16 ≤ z ∨ g (y * 16 + z) = false := by
                  by_cases h : z < 16
                  · right
                    cases hgv : g (y * 16 + z) with
                    | false => rfl
                    | true => exact absurd ⟨h, hgv⟩ hz16
                  · left; omega
                have hstop := endAt_stop g y z hz17
                have hEZ := Aside0.mk (hE.out.symm.trans hstop)
                have hl24 : xs.length + 1 ≤ 1000 := by have := hR.out.2.1; omega
                have hRB := Aside0.mk (Kd.R_alloc hR.out.1 (.cells #[.int .i64 (y : Int), .int .i64 (x : Int), .int .i64 (z : Int)] 57))
                have hBB := Aside0.mk (below_alloc hb.out (.cells #[.int .i64 (y : Int), .int .i64 (x : Int), .int .i64 (z : Int)] 57))
                have hGB := Aside0.mk (blk_alloc hg (.cells #[.int .i64 (y : Int), .int .i64 (x : Int), .int .i64 (z : Int)] 57))
                have hNE := Aside0.mk (Kd.R_ne hRB.out hGB.out (by decide))
                clear hstop hE hz16
                rcases hz17 with hz17 | hz17
                · have hdz : decide ((z : Int) < 16) = false := by simp; omega
                  go_wp2_with (first | ((with_reducible refine gate_builtin (b := .append) (xs := #[.tmp 37, .tmp 39]) rfl ?_); at_builtin; refine Kd.R_append k57 w.heap.size rfl (.tmp 37) (.tmp 39) 25 57 (.agg #[(.int .i64 0), (.int .i64 0), (.int .i64 0)]) 24 rfl Try.underlying25 info57 rfl (by decide) (by omega) u3 xs (⟨(y : Int), (x : Int), (z : Int)⟩ : S57) [.int .i64 (y : Int), .int .i64 (x : Int), .int .i64 (z : Int)] (fun _ => True) (fun _ => False) rfl ?aX ?aP (fun _ hk => hk.elim) (fun _ _ => trivial) hRB.out hBB.out ?aS ?aL ?_; (case aX => rw [World.size_alloc]; rfl); (case aP => exact k57_mkM _ _ _ (⟨(y : Int), (x : Int), (z : Int)⟩ : S57)); (case aS => exact hBB.out.size); (case aL => omega); intro v4 w4 ho hb4 hg4 hat4; have hG4 := Aside0.mk (blk_grown hGB.out hg4 hNE.out); have hO4 := Aside0.mk ho; have hB4 := Aside0.mk hb4; clear ho hb4 hg4 hat4))
                  go_roundw
                  case rel =>
                    refine ⟨z + 1, xs ++ [⟨(y : Int), (x : Int), (z : Int)⟩], by go_num, by omega, ⟨hO4.out, by have := hR.out.2.1; rw [List.length_append]; simp; omega, ?_⟩, hG4.out, hB4⟩
                    have h1 := hR.out.2.2
                    rw [HS.out, hEZ.out] at h1
                    rw [List.append_assoc]; exact h1
                  case measure => simp [intOf]; omega
                · by_cases hlz : z < 16
                  · have hdz : decide ((z : Int) < 16) = true := by simp; omega
                    have hc := hgz.cell (y * 16 + z) (by omega)
                    rw [hz17] at hc
                    go_wp2_with (first | ((with_reducible refine gate_builtin (b := .append) (xs := #[.tmp 37, .tmp 39]) rfl ?_); at_builtin; refine Kd.R_append k57 w.heap.size rfl (.tmp 37) (.tmp 39) 25 57 (.agg #[(.int .i64 0), (.int .i64 0), (.int .i64 0)]) 24 rfl Try.underlying25 info57 rfl (by decide) (by omega) u3 xs (⟨(y : Int), (x : Int), (z : Int)⟩ : S57) [.int .i64 (y : Int), .int .i64 (x : Int), .int .i64 (z : Int)] (fun _ => True) (fun _ => False) rfl ?aX ?aP (fun _ hk => hk.elim) (fun _ _ => trivial) hRB.out hBB.out ?aS ?aL ?_; (case aX => rw [World.size_alloc]; rfl); (case aP => exact k57_mkM _ _ _ (⟨(y : Int), (x : Int), (z : Int)⟩ : S57)); (case aS => exact hBB.out.size); (case aL => omega); intro v4 w4 ho hb4 hg4 hat4; have hG4 := Aside0.mk (blk_grown hGB.out hg4 hNE.out); have hO4 := Aside0.mk ho; have hB4 := Aside0.mk hb4; clear ho hb4 hg4 hat4))
                    go_roundw
                    case rel =>
                      refine ⟨z + 1, xs ++ [⟨(y : Int), (x : Int), (z : Int)⟩], by go_num, by omega, ⟨hO4.out, by have := hR.out.2.1; rw [List.length_append]; simp; omega, ?_⟩, hG4.out, hB4⟩
                      have h1 := hR.out.2.2
                      rw [HS.out, hEZ.out] at h1
                      rw [List.append_assoc]; exact h1
                    case measure => simp [intOf]; omega

                  · have hdz : decide ((z : Int) < 16) = false := by simp; omega
                    go_wp2_with (first | ((with_reducible refine gate_builtin (b := .append) (xs := #[.tmp 37, .tmp 39]) rfl ?_); at_builtin; refine Kd.R_append k57 w.heap.size rfl (.tmp 37) (.tmp 39) 25 57 (.agg #[(.int .i64 0), (.int .i64 0), (.int .i64 0)]) 24 rfl Try.underlying25 info57 rfl (by decide) (by omega) u3 xs (⟨(y : Int), (x : Int), (z : Int)⟩ : S57) [.int .i64 (y : Int), .int .i64 (x : Int), .int .i64 (z : Int)] (fun _ => True) (fun _ => False) rfl ?aX ?aP (fun _ hk => hk.elim) (fun _ _ => trivial) hRB.out hBB.out ?aS ?aL ?_; (case aX => rw [World.size_alloc]; rfl); (case aP => exact k57_mkM _ _ _ (⟨(y : Int), (x : Int), (z : Int)⟩ : S57)); (case aS => exact hBB.out.size); (case aL => omega); intro v4 w4 ho hb4 hg4 hat4; have hG4 := Aside0.mk (blk_grown hGB.out hg4 hNE.out); have hO4 := Aside0.mk ho; have hB4 := Aside0.mk hb4; clear ho hb4 hg4 hat4))
                    go_roundw
                    case rel =>
                      refine ⟨z + 1, xs ++ [⟨(y : Int), (x : Int), (z : Int)⟩], by go_num, by omega, ⟨hO4.out, by have := hR.out.2.1; rw [List.length_append]; simp; omega, ?_⟩, hG4.out, hB4⟩
                      have h1 := hR.out.2.2
                      rw [HS.out, hEZ.out] at h1
                      rw [List.append_assoc]; exact h1
                    case measure => simp [intOf]; omega
          · replace hv : g (y * 16 + x) = false := by simpa using hv
            rw [hv] at hc
            have hs := scan_false g y x hlx hv
            have HS := Aside0.mk hs
            clear hs
            go_wp2
            go_roundw
            case rel => exact ⟨x + 1, xs, by go_num, by omega, ⟨hR.out.1, by have := hR.out.2.1; omega, by rw [← HS.out]; exact hR.out.2.2⟩, hg, hb⟩
            case measure => simp [intOf]; omega
        · have hdx : decide ((x : Int) < 16) = false := by simp; omega
          have he := scan_end g y x (by omega)
          have HE := Aside0.mk he
          clear he
          go_wp2
          go_roundw
          case rel =>
            have h1 := hR.out.2.2
            rw [HE.out, List.append_nil] at h1
            exact ⟨y + 1, by go_num, by omega, ⟨by rw [← h1]; exact hR.out.1, by rw [← h1]; have := hR.out.2.1; omega⟩, hg, hb⟩
          case measure => simp [intOf]; omega
    · have hdy : decide ((y : Int) < 16) = false := by simp; omega
      have hy16 : y = 16 := by omega
      subst hy16
      go_wp2
      go_ret
      exact ⟨_, rfl, hR.out.1, hb.out⟩
end Go.Proofs.Ytfgeickfheogoaa.Q

namespace Go.Proofs.Ytfgeickfheogoaa.Q
open Go.RowKit Go.Proofs.YtfgeickfheogoaaW.PrintWords Go.Proofs.YtfgeickfheogoaaW.PrintLast Go.Proofs.YtfgeickfheogoaaW.PrintMore
attribute [local go_sem] max2_int min2_int max_two min_two max_three min_three max_four min_four
set_option linter.unusedVariables false
set_option linter.unusedSimpArgs false
/-! ### impl_isRegion: function 55 -/
mutual
def impl_isRegion.l0 : Nat → List (S57) → List (S57) → Int → Int → Option (Bool)
  | 0, _, _, _, _ => none
  | k + 1, x0, x6, x7, x8 => if x8 < x7 then (if 0 ≤ x8 then (if x8 < (x6.length : Int) then (if ((rd_T57 x6 x8).f0) < 0 then (impl_isRegion.j1 k x0 x8 x6 x7 x8 true ((rd_T57 x6 x8).f0) ((rd_T57 x6 x8).f1) ((rd_T57 x6 x8).f2)) else (if ((rd_T57 x6 x8).f0) ≥ 16 then (impl_isRegion.j1 k x0 x8 x6 x7 x8 true ((rd_T57 x6 x8).f0) ((rd_T57 x6 x8).f1) ((rd_T57 x6 x8).f2)) else (if ((rd_T57 x6 x8).f1) < 0 then (impl_isRegion.j1 k x0 x8 x6 x7 x8 true ((rd_T57 x6 x8).f0) ((rd_T57 x6 x8).f1) ((rd_T57 x6 x8).f2)) else (if ((rd_T57 x6 x8).f2) ≤ ((rd_T57 x6 x8).f1) then (impl_isRegion.j1 k x0 x8 x6 x7 x8 true ((rd_T57 x6 x8).f0) ((rd_T57 x6 x8).f1) ((rd_T57 x6 x8).f2)) else (impl_isRegion.j1 k x0 x8 x6 x7 x8 (decide (((rd_T57 x6 x8).f2) > 16)) ((rd_T57 x6 x8).f0) ((rd_T57 x6 x8).f1) ((rd_T57 x6 x8).f2)))))) else (none)) else (none)) else (some true)
def impl_isRegion.j1 : Nat → List (S57) → Int → List (S57) → Int → Int → Bool → Int → Int → Int → Option (Bool)
  | 0, _, _, _, _, _, _, _, _, _ => none
  | k + 1, x0, x3, x6, x7, x8, x37, x56003000, x56003001, x56003002 => if x37 = true then (some false) else (if x3 = 0 then (impl_isRegion.l0 k x0 x6 x7 (wrap64 (x8 + 1))) else (if 0 ≤ (wrap64 (x3 - 1)) then (if (wrap64 (x3 - 1)) < (x0.length : Int) then (if x56003000 < ((rd_T57 x0 (wrap64 (x3 - 1))).f0) then (some false) else (if x56003000 = ((rd_T57 x0 (wrap64 (x3 - 1))).f0) then (if x56003001 ≤ ((rd_T57 x0 (wrap64 (x3 - 1))).f2) then (some false) else (impl_isRegion.l0 k x0 x6 x7 (wrap64 (x8 + 1)))) else (impl_isRegion.l0 k x0 x6 x7 (wrap64 (x8 + 1))))) else (none)) else (none)))
end
def impl_isRegion.f (k : Nat) (l0 : List (S57)) : Option (Bool) := impl_isRegion.l0 k l0 l0 (l0.length : Int) 0
theorem impl_isRegion.mono_l : ∀ k, (∀ y0 y1 y2 y3, LeO (impl_isRegion.l0 k y0 y1 y2 y3) (impl_isRegion.l0 (k + 1) y0 y1 y2 y3)) ∧ (∀ y0 y1 y2 y3 y4 y5 y6 y7 y8, LeO (impl_isRegion.j1 k y0 y1 y2 y3 y4 y5 y6 y7 y8) (impl_isRegion.j1 (k + 1) y0 y1 y2 y3 y4 y5 y6 y7 y8))
  | 0 => ⟨fun _ _ _ _ r h => by simp [impl_isRegion.l0] at h, fun _ _ _ _ _ _ _ _ _ r h => by simp [impl_isRegion.j1] at h⟩
  | k + 1 => by
    obtain ⟨ih0, ih1⟩ := impl_isRegion.mono_l k
    refine ⟨?_, ?_⟩
    · intro y0 y1 y2 y3
      unfold impl_isRegion.l0
      repeat' first
      | (with_reducible exact ih0 _ _ _ _)
      | (with_reducible exact ih1 _ _ _ _ _ _ _ _ _)
      | (with_reducible exact LeO.refl _)
      | (with_reducible exact LeO.none _)
      | (with_reducible refine LeO.ite ?_ ?_)
      | (with_reducible refine LeO.bind ?_ (fun _ => ?_))
      | exact ih0 _ _ _ _
      | exact ih1 _ _ _ _ _ _ _ _ _
      | exact LeO.none _
      | refine LeO.ite ?_ ?_
      | refine LeO.bind ?_ (fun _ => ?_)
    · intro y0 y1 y2 y3 y4 y5 y6 y7 y8
      unfold impl_isRegion.j1
      repeat' first
      | (with_reducible exact ih0 _ _ _ _)
      | (with_reducible exact ih1 _ _ _ _ _ _ _ _ _)
      | (with_reducible exact LeO.refl _)
      | (with_reducible exact LeO.none _)
      | (with_reducible refine LeO.ite ?_ ?_)
      | (with_reducible refine LeO.bind ?_ (fun _ => ?_))
      | exact ih0 _ _ _ _
      | exact ih1 _ _ _ _ _ _ _ _ _
      | exact LeO.none _
      | refine LeO.ite ?_ ?_
      | refine LeO.bind ?_ (fun _ => ?_)
theorem impl_isRegion.mono : ∀ a0 k, LeO (impl_isRegion.f k a0) (impl_isRegion.f (k + 1) a0) := by
  intro a0 k
  obtain ⟨ih0, ih1⟩ := impl_isRegion.mono_l k
  unfold impl_isRegion.f
  repeat' first
      | (with_reducible exact ih0 _ _ _ _)
      | (with_reducible exact ih1 _ _ _ _ _ _ _ _ _)
      | (with_reducible exact LeO.refl _)
      | (with_reducible exact LeO.none _)
      | (with_reducible refine LeO.ite ?_ ?_)
      | (with_reducible refine LeO.bind ?_ (fun _ => ?_))
      | exact ih0 _ _ _ _
      | exact ih1 _ _ _ _ _ _ _ _ _
      | exact LeO.none _
      | refine LeO.ite ?_ ?_
      | refine LeO.bind ?_ (fun _ => ?_)
set_option maxHeartbeats 8000000 in
set_option maxRecDepth 100000 in
theorem impl_isRegion.calls (k : Nat) (A0 : Option Addr) (c0 : Nat) (l0 : List (S57)) (r : Bool) (w : World) (hr0 : Kd.C k57 w A0 l0.length l0) (hc0 : l0.length ≤ c0) (h : impl_isRegion.f k l0 = some r) :
    Calls Try.prog 55 #[.slice A0 l0.length c0] w fun e w' => e = .returned (.bool r) ∧ Below w.heap.size w w' := by
  have hu57 := Try.underlying57
  have HR0 := Aside0.mk hr0
  have HC0 := Aside0.mk hc0
  clear hr0 hc0
  have HB := Aside0.mk (Below.refl w.heap.size w)
  have H : (impl_isRegion.l0 k l0 l0 (l0.length : Int) 0) = some r := h
  clear h
  have H' := Aside0.mk H
  clear H
  go_enter Try.func55, Try.ntmps55
  go_wp2
  go_loopg [8] k (fun kq v8 w' => ∃ (x8_1 : Int), v8 = .int .i64 x8_1 ∧ Aside0 (impl_isRegion.l0 kq l0 l0 (l0.length : Int) x8_1 = some r) ∧ Aside0 (kq ≤ k) ∧ Aside0 (Below w.heap.size w w'))
  case atStart => exact ⟨(0), (by first | rfl | (simp; done) | (simp [*]; done)), H', ⟨Nat.le_refl _⟩, ⟨by repeat (first | (with_reducible first | exact HB.out | apply below_alloc | apply pw_below_drewN | apply below_drew1) | exact HB.out)⟩⟩
  case round =>
    clear H'
    obtain ⟨x8_1, rfl, HA, HK1, HB⟩ := hrel
    cases gk with
    | zero => exact absurd HA.out (by simp [impl_isRegion.l0])
    | succ k1 =>
      have H := HA.out
      clear HA
      simp only [impl_isRegion.l0] at H
      by_cases c2 : x8_1 < (l0.length : Int)
      · rw [if_pos c2] at H
        have c2b0 : decide (x8_1 < (l0.length : Int)) = true := decide_eq_true c2
        clear c2
        by_cases c3 : 0 ≤ x8_1
        · rw [if_pos c3] at H
          have c3b0 : decide (0 ≤ x8_1) = true := decide_eq_true c3
          clear c3
          by_cases c4 : x8_1 < (l0.length : Int)
          · rw [if_pos c4] at H
            have c4b0 : decide (x8_1 < (l0.length : Int)) = true := decide_eq_true c4
            clear c4
            have HC5 := Aside0.mk H
            clear H
            have p56001 : 0 ≤ (x8_1 : Int) := of_decide_eq_true (by first | (with_reducible assumption) | assumption)
            have q56001 : x8_1 < (l0.length : Int) := of_decide_eq_true (by first | (with_reducible assumption) | assumption)
            obtain ⟨ad56001, e56001, hx56001_0, hx56001_1, hx56001_2⟩ := at_T57 HR0.out x8_1 p56001 q56001
            cases e56001
            replace hx56001_0 := (HB.out.cell (World.block_lt_of_cell? w _ hx56001_0)).trans hx56001_0
            replace hx56001_1 := (HB.out.cell (World.block_lt_of_cell? w _ hx56001_1)).trans hx56001_1
            replace hx56001_2 := (HB.out.cell (World.block_lt_of_cell? w _ hx56001_2)).trans hx56001_2
            replace p56001 := eq_true p56001
            replace q56001 := eq_true q56001
            go_upto_region 4 with (first | ((with_reducible refine gate_dst (N := 4) rfl ?_); refine box_event ?hg (N := 4) ?hd (cs := #[.int .i64 0, .int .i64 0, .int .i64 0]) (t := 57) ?hr ?_; (case hd => rfl); (case hg => rfl); (case hr => first | (go_simp; done) | (go_simp; rfl)); intro gb56002 hg w6 hbox hb; have n0_ := Aside0.mk (below_step (by repeat (first | (with_reducible first | exact HB.out | apply below_alloc | apply pw_below_drewN | apply below_drew1) | exact HB.out)) hb); have n1_ := Aside0.mk (hbox); have n2_ := Aside0.mk ((by rw [hg]; exact (below_size (by repeat (first | (with_reducible first | exact HB.out | apply below_alloc | apply pw_below_drewN | apply below_drew1) | exact HB.out))) : w.heap.size ≤ gb56002)); have n3_ := Aside0.mk ((by rw [hg]; exact (below_size (by repeat (first | (with_reducible first | exact HB.out | apply below_alloc | apply pw_below_drewN | apply below_drew1) | exact HB.out))) : w.heap.size ≤ gb56002)); clear HB; have HB := n0_; have BK56002 := n1_; have GW56002 := n2_; have GE56002 := n3_; clear n0_ n1_ n2_ n3_; clear hb hbox hg; have hcz7_0 : w6.cell? ⟨gb56002, 0, none⟩ = some (.int .i64 0) := (blk_cell BK56002.out 0).trans rfl; have hcz7_1 : w6.cell? ⟨gb56002, 1, none⟩ = some (.int .i64 0) := (blk_cell BK56002.out 1).trans rfl; have hcz7_2 : w6.cell? ⟨gb56002, 2, none⟩ = some (.int .i64 0) := (blk_cell BK56002.out 2).trans rfl; have hfz7_0 := blk_frozen BK56002.out 0; have hfz7_1 := blk_frozen BK56002.out 1; have hfz7_2 := blk_frozen BK56002.out 2))
            (try simp only [Act.put, List.setIfInBounds_toArray, List.set_cons_zero, List.set_cons_succ])
            go_cut [37] (fun v37 wc => ∃ (kq : Nat) (x37_4 : Bool), v37 = .bool x37_4 ∧ Aside0 (impl_isRegion.j1 kq l0 x8_1 l0 (l0.length : Int) x8_1 x37_4 ((rd_T57 l0 x8_1).f0) ((rd_T57 l0 x8_1).f1) ((rd_T57 l0 x8_1).f2) = some r) ∧ Aside0 (kq ≤ k1) ∧ Aside0 (wc.heap[gb56002]? = some (.cells #[.int .i64 ((rd_T57 l0 x8_1).f0), .int .i64 ((rd_T57 l0 x8_1).f1), .int .i64 ((rd_T57 l0 x8_1).f2)] 57 (0, 0))) ∧ Aside0 (Below w.heap.size w wc))
            case first =>
              have H := HC5.out
              clear HC5
              by_cases c8 : ((rd_T57 l0 x8_1).f0) < 0
              · rw [if_pos c8] at H
                have c8b0 : decide (((rd_T57 l0 x8_1).f0) < 0) = true := decide_eq_true c8
                clear c8
                (first | rw [c8b0] | (simp only [i64_w, i32_w]; rw [c8b0]) | skip)
                have H' := Aside0.mk H
                clear H
                have hcz9_0 : w6.cell? ⟨gb56002, 0, none⟩ = some (.int .i64 0) := (blk_cell BK56002.out 0).trans rfl
                have hcz9_1 : w6.cell? ⟨gb56002, 1, none⟩ = some (.int .i64 0) := (blk_cell BK56002.out 1).trans rfl
                have hcz9_2 : w6.cell? ⟨gb56002, 2, none⟩ = some (.int .i64 0) := (blk_cell BK56002.out 2).trans rfl
                have hfz9_0 := blk_frozen BK56002.out 0
                have hfz9_1 := blk_frozen BK56002.out 1
                have hfz9_2 := blk_frozen BK56002.out 2
                go_wp2
                go_meet
                case rel => exact ⟨_, (true), (by first | rfl | (simp; done) | (simp [*]; done)), H', ⟨by have := HK1.out; first | omega | exact Nat.le_refl _⟩, ⟨by (with_reducible repeat (first | refine blk_drewN ?_ _ | refine blk_drew ?_ | refine blk_alloc ?_ _)); refine blk_put (cs := #[.int .i64 ((rd_T57 l0 x8_1).f0), .int .i64 ((rd_T57 l0 x8_1).f1), .int .i64 0]) ?_ 2 _ rfl; (with_reducible repeat (first | refine blk_drewN ?_ _ | refine blk_drew ?_ | refine blk_alloc ?_ _)); refine blk_put (cs := #[.int .i64 ((rd_T57 l0 x8_1).f0), .int .i64 0, .int .i64 0]) ?_ 1 _ rfl; (with_reducible repeat (first | refine blk_drewN ?_ _ | refine blk_drew ?_ | refine blk_alloc ?_ _)); refine blk_put (cs := #[.int .i64 0, .int .i64 0, .int .i64 0]) ?_ 0 _ rfl; (with_reducible repeat (first | refine blk_drewN ?_ _ | refine blk_drew ?_ | refine blk_alloc ?_ _)); exact BK56002.out⟩, ⟨by repeat (first | (with_reducible first | exact HB.out | apply below_alloc | apply pw_below_drewN | apply below_drew1 | refine below_set ?_ GE56002.out) | exact HB.out)⟩⟩
              · rw [if_neg c8] at H
                have c8b0 : decide (((rd_T57 l0 x8_1).f0) < 0) = false := decide_eq_false c8
                clear c8
                (first | rw [c8b0] | (simp only [i64_w, i32_w]; rw [c8b0]) | skip)
                by_cases c10 : ((rd_T57 l0 x8_1).f0) ≥ 16
                · rw [if_pos c10] at H
                  have c10b0 : decide (16 ≤ ((rd_T57 l0 x8_1).f0)) = true := decide_eq_true c10
                  clear c10
                  have H' := Aside0.mk H
                  clear H
                  have hcz11_0 : w6.cell? ⟨gb56002, 0, none⟩ = some (.int .i64 0) := (blk_cell BK56002.out 0).trans rfl
                  have hcz11_1 : w6.cell? ⟨gb56002, 1, none⟩ = some (.int .i64 0) := (blk_cell BK56002.out 1).trans rfl
                  have hcz11_2 : w6.cell? ⟨gb56002, 2, none⟩ = some (.int .i64 0) := (blk_cell BK56002.out 2).trans rfl
                  have hfz11_0 := blk_frozen BK56002.out 0
                  have hfz11_1 := blk_frozen BK56002.out 1
                  have hfz11_2 := blk_frozen BK56002.out 2
                  go_wp2
                  go_meet
                  case rel => exact ⟨_, (true), (by first | rfl | (simp; done) | (simp [*]; done)), H', ⟨by have := HK1.out; first | omega | exact Nat.le_refl _⟩, ⟨by (with_reducible repeat (first | refine blk_drewN ?_ _ | refine blk_drew ?_ | refine blk_alloc ?_ _)); refine blk_put (cs := #[.int .i64 ((rd_T57 l0 x8_1).f0), .int .i64 ((rd_T57 l0 x8_1).f1), .int .i64 0]) ?_ 2 _ rfl; (with_reducible repeat (first | refine blk_drewN ?_ _ | refine blk_drew ?_ | refine blk_alloc ?_ _)); refine blk_put (cs := #[.int .i64 ((rd_T57 l0 x8_1).f0), .int .i64 0, .int .i64 0]) ?_ 1 _ rfl; (with_reducible repeat (first | refine blk_drewN ?_ _ | refine blk_drew ?_ | refine blk_alloc ?_ _)); refine blk_put (cs := #[.int .i64 0, .int .i64 0, .int .i64 0]) ?_ 0 _ rfl; (with_reducible repeat (first | refine blk_drewN ?_ _ | refine blk_drew ?_ | refine blk_alloc ?_ _)); exact BK56002.out⟩, ⟨by repeat (first | (with_reducible first | exact HB.out | apply below_alloc | apply pw_below_drewN | apply below_drew1 | refine below_set ?_ GE56002.out) | exact HB.out)⟩⟩
                · rw [if_neg c10] at H
                  have c10b0 : decide (16 ≤ ((rd_T57 l0 x8_1).f0)) = false := decide_eq_false c10
                  clear c10
                  by_cases c12 : ((rd_T57 l0 x8_1).f1) < 0
                  · rw [if_pos c12] at H
                    have c12b0 : decide (((rd_T57 l0 x8_1).f1) < 0) = true := decide_eq_true c12
                    clear c12
                    have H' := Aside0.mk H
                    clear H
                    have hcz13_0 : w6.cell? ⟨gb56002, 0, none⟩ = some (.int .i64 0) := (blk_cell BK56002.out 0).trans rfl
                    have hcz13_1 : w6.cell? ⟨gb56002, 1, none⟩ = some (.int .i64 0) := (blk_cell BK56002.out 1).trans rfl
                    have hcz13_2 : w6.cell? ⟨gb56002, 2, none⟩ = some (.int .i64 0) := (blk_cell BK56002.out 2).trans rfl
                    have hfz13_0 := blk_frozen BK56002.out 0
                    have hfz13_1 := blk_frozen BK56002.out 1
                    have hfz13_2 := blk_frozen BK56002.out 2
                    go_wp2
                    go_meet
                    case rel => exact ⟨_, (true), (by first | rfl | (simp; done) | (simp [*]; done)), H', ⟨by have := HK1.out; first | omega | exact Nat.le_refl _⟩, ⟨by (with_reducible repeat (first | refine blk_drewN ?_ _ | refine blk_drew ?_ | refine blk_alloc ?_ _)); refine blk_put (cs := #[.int .i64 ((rd_T57 l0 x8_1).f0), .int .i64 ((rd_T57 l0 x8_1).f1), .int .i64 0]) ?_ 2 _ rfl; (with_reducible repeat (first | refine blk_drewN ?_ _ | refine blk_drew ?_ | refine blk_alloc ?_ _)); refine blk_put (cs := #[.int .i64 ((rd_T57 l0 x8_1).f0), .int .i64 0, .int .i64 0]) ?_ 1 _ rfl; (with_reducible repeat (first | refine blk_drewN ?_ _ | refine blk_drew ?_ | refine blk_alloc ?_ _)); refine blk_put (cs := #[.int .i64 0, .int .i64 0, .int .i64 0]) ?_ 0 _ rfl; (with_reducible repeat (first | refine blk_drewN ?_ _ | refine blk_drew ?_ | refine blk_alloc ?_ _)); exact BK56002.out⟩, ⟨by repeat (first | (with_reducible first | exact HB.out | apply below_alloc | apply pw_below_drewN | apply below_drew1 | refine below_set ?_ GE56002.out) | exact HB.out)⟩⟩
                  · rw [if_neg c12] at H
                    have c12b0 : decide (((rd_T57 l0 x8_1).f1) < 0) = false := decide_eq_false c12
                    clear c12
                    by_cases c14 : ((rd_T57 l0 x8_1).f2) ≤ ((rd_T57 l0 x8_1).f1)
                    · rw [if_pos c14] at H
                      have c14b0 : decide (((rd_T57 l0 x8_1).f2) ≤ ((rd_T57 l0 x8_1).f1)) = true := decide_eq_true c14
                      clear c14
                      have H' := Aside0.mk H
                      clear H
                      have hcz15_0 : w6.cell? ⟨gb56002, 0, none⟩ = some (.int .i64 0) := (blk_cell BK56002.out 0).trans rfl
                      have hcz15_1 : w6.cell? ⟨gb56002, 1, none⟩ = some (.int .i64 0) := (blk_cell BK56002.out 1).trans rfl
                      have hcz15_2 : w6.cell? ⟨gb56002, 2, none⟩ = some (.int .i64 0) := (blk_cell BK56002.out 2).trans rfl
                      have hfz15_0 := blk_frozen BK56002.out 0
                      have hfz15_1 := blk_frozen BK56002.out 1
                      have hfz15_2 := blk_frozen BK56002.out 2
                      go_wp2
                      go_meet
                      case rel => exact ⟨_, (true), (by first | rfl | (simp; done) | (simp [*]; done)), H', ⟨by have := HK1.out; first | omega | exact Nat.le_refl _⟩, ⟨by (with_reducible repeat (first | refine blk_drewN ?_ _ | refine blk_drew ?_ | refine blk_alloc ?_ _)); refine blk_put (cs := #[.int .i64 ((rd_T57 l0 x8_1).f0), .int .i64 ((rd_T57 l0 x8_1).f1), .int .i64 0]) ?_ 2 _ rfl; (with_reducible repeat (first | refine blk_drewN ?_ _ | refine blk_drew ?_ | refine blk_alloc ?_ _)); refine blk_put (cs := #[.int .i64 ((rd_T57 l0 x8_1).f0), .int .i64 0, .int .i64 0]) ?_ 1 _ rfl; (with_reducible repeat (first | refine blk_drewN ?_ _ | refine blk_drew ?_ | refine blk_alloc ?_ _)); refine blk_put (cs := #[.int .i64 0, .int .i64 0, .int .i64 0]) ?_ 0 _ rfl; (with_reducible repeat (first | refine blk_drewN ?_ _ | refine blk_drew ?_ | refine blk_alloc ?_ _)); exact BK56002.out⟩, ⟨by repeat (first | (with_reducible first | exact HB.out | apply below_alloc | apply pw_below_drewN | apply below_drew1 | refine below_set ?_ GE56002.out) | exact HB.out)⟩⟩
                    · rw [if_neg c14] at H
                      have c14b0 : decide (((rd_T57 l0 x8_1).f2) ≤ ((rd_T57 l0 x8_1).f1)) = false := decide_eq_false c14
                      clear c14
                      have H' := Aside0.mk H
                      clear H
                      have hcz16_0 : w6.cell? ⟨gb56002, 0, none⟩ = some (.int .i64 0) := (blk_cell BK56002.out 0).trans rfl
                      have hcz16_1 : w6.cell? ⟨gb56002, 1, none⟩ = some (.int .i64 0) := (blk_cell BK56002.out 1).trans rfl
                      have hcz16_2 : w6.cell? ⟨gb56002, 2, none⟩ = some (.int .i64 0) := (blk_cell BK56002.out 2).trans rfl
                      have hfz16_0 := blk_frozen BK56002.out 0
                      have hfz16_1 := blk_frozen BK56002.out 1
                      have hfz16_2 := blk_frozen BK56002.out 2
                      go_wp2
                      go_meet
                      case rel => exact ⟨_, (decide (((rd_T57 l0 x8_1).f2) > 16)), (by first | rfl | (simp; done) | (simp [*]; done)), H', ⟨by have := HK1.out; first | omega | exact Nat.le_refl _⟩, ⟨by (with_reducible repeat (first | refine blk_drewN ?_ _ | refine blk_drew ?_ | refine blk_alloc ?_ _)); refine blk_put (cs := #[.int .i64 ((rd_T57 l0 x8_1).f0), .int .i64 ((rd_T57 l0 x8_1).f1), .int .i64 0]) ?_ 2 _ rfl; (with_reducible repeat (first | refine blk_drewN ?_ _ | refine blk_drew ?_ | refine blk_alloc ?_ _)); refine blk_put (cs := #[.int .i64 ((rd_T57 l0 x8_1).f0), .int .i64 0, .int .i64 0]) ?_ 1 _ rfl; (with_reducible repeat (first | refine blk_drewN ?_ _ | refine blk_drew ?_ | refine blk_alloc ?_ _)); refine blk_put (cs := #[.int .i64 0, .int .i64 0, .int .i64 0]) ?_ 0 _ rfl; (with_reducible repeat (first | refine blk_drewN ?_ _ | refine blk_drew ?_ | refine blk_alloc ?_ _)); exact BK56002.out⟩, ⟨by repeat (first | (with_reducible first | exact HB.out | apply below_alloc | apply pw_below_drewN | apply below_drew1 | refine below_set ?_ GE56002.out) | exact HB.out)⟩⟩
            case rest =>
              clear HC5
              try clear c1
              try clear c2
              try clear c2b0
              try clear p2
              try clear c3
              try clear c3b0
              try clear c4
              try clear c4b0
              try clear c5
              try clear p5
              try clear q5
              try clear hx5
              try clear c8
              try clear c8b0
              try clear c10
              try clear c10b0
              try clear c12
              try clear c12b0
              try clear c14
              try clear c14b0
              try clear hcz11_0
              try clear hcz11_1
              try clear hcz11_2
              try clear hcz13_0
              try clear hcz13_1
              try clear hcz13_2
              try clear hcz15_0
              try clear hcz15_1
              try clear hcz15_2
              try clear hcz16_0
              try clear hcz16_1
              try clear hcz16_2
              try clear hcz7_0
              try clear hcz7_1
              try clear hcz7_2
              try clear hcz9_0
              try clear hcz9_1
              try clear hcz9_2
              try clear hfz11_0
              try clear hfz11_1
              try clear hfz11_2
              try clear hfz13_0
              try clear hfz13_1
              try clear hfz13_2
              try clear hfz15_0
              try clear hfz15_1
              try clear hfz15_2
              try clear hfz16_0
              try clear hfz16_1
              try clear hfz16_2
              try clear hfz7_0
              try clear hfz7_1
              try clear hfz7_2
              try clear hfz9_0
              try clear hfz9_1
              try clear hfz9_2
              try clear hx56001_0
              try clear hx56001_1
              try clear hx56001_2
              try clear p56001
              try clear q56001
              obtain ⟨kq, x37_4, rfl, HA, HJ4, BK56002, HB⟩ := hcut
              cases kq with
              | zero => exact absurd HA.out (by simp [impl_isRegion.j1])
              | succ kj4 =>
                have H := HA.out
                clear HA
                simp only [impl_isRegion.j1] at H
                by_cases c17 : x37_4 = true
                · subst c17
                  have H1 : (some false) = some r := by rw [if_pos rfl] at H; exact H
                  clear H
                  have H := H1
                  clear H1
                  obtain rfl := Option.some.inj H
                  go_wp2
                  go_ret
                  exact ⟨by first | rfl | (simp [errW_none, errW_some] <;> rfl) | (simp [*, errW_none, errW_some] <;> rfl), by repeat (first | (with_reducible first | exact HB.out | apply below_alloc | apply pw_below_drewN | apply below_drew1 | refine below_set ?_ GE56002.out) | exact HB.out)⟩
                · replace c17 := Bool.eq_false_iff.mpr c17
                  subst c17
                  have H1 : (if x8_1 = 0 then (impl_isRegion.l0 kj4 l0 l0 (l0.length : Int) (wrap64 (x8_1 + 1))) else (if 0 ≤ (wrap64 (x8_1 - 1)) then (if (wrap64 (x8_1 - 1)) < (l0.length : Int) then (if ((rd_T57 l0 x8_1).f0) < ((rd_T57 l0 (wrap64 (x8_1 - 1))).f0) then (some false) else (if ((rd_T57 l0 x8_1).f0) = ((rd_T57 l0 (wrap64 (x8_1 - 1))).f0) then (if ((rd_T57 l0 x8_1).f1) ≤ ((rd_T57 l0 (wrap64 (x8_1 - 1))).f2) then (some false) else (impl_isRegion.l0 kj4 l0 l0 (l0.length : Int) (wrap64 (x8_1 + 1)))) else (impl_isRegion.l0 kj4 l0 l0 (l0.length : Int) (wrap64 (x8_1 + 1))))) else (none)) else (none))) = some r := by rw [if_neg (show ¬ (false = true) by decide)] at H; exact H
                  clear H
                  have H := H1
                  clear H1
                  by_cases c18 : x8_1 = 0
                  · rw [if_pos c18] at H
                    have c18b0 : (x8_1 == 0) = true := beq_iff_eq.mpr c18
                    have c18b1 : (x8_1 != 0) = false := bne_eq_false_iff_eq.mpr c18
                    clear c18
                    have H' := Aside0.mk H
                    clear H
                    go_wp2
                    go_roundg kj4
                    case measure => have := HK1.out; have := HJ4.out; omega
                    case rel => exact ⟨(wrap64 (x8_1 + 1)), (by first | rfl | (simp; done) | (simp [*]; done)), H', ⟨by have := HK1.out; have := HJ4.out; omega⟩, ⟨by repeat (first | (with_reducible first | exact HB.out | apply below_alloc | apply pw_below_drewN | apply below_drew1 | refine below_set ?_ GE56002.out) | exact HB.out)⟩⟩
                  · rw [if_neg c18] at H
                    have c18b0 : (x8_1 == 0) = false := beq_eq_false_iff_ne.mpr c18
                    have c18b1 : (x8_1 != 0) = true := bne_iff_ne.mpr c18
                    obtain ⟨ji19, hji19⟩ : ∃ j_ : Int, (wrap64 (x8_1 - 1)) = j_ := ⟨_, rfl⟩
                    replace H : (if 0 ≤ (ji19) then (if (ji19) < (l0.length : Int) then (if ((rd_T57 l0 x8_1).f0) < ((rd_T57 l0 (ji19)).f0) then (some false) else (if ((rd_T57 l0 x8_1).f0) = ((rd_T57 l0 (ji19)).f0) then (if ((rd_T57 l0 x8_1).f1) ≤ ((rd_T57 l0 (ji19)).f2) then (some false) else (impl_isRegion.l0 kj4 l0 l0 (l0.length : Int) (wrap64 (x8_1 + 1)))) else (impl_isRegion.l0 kj4 l0 l0 (l0.length : Int) (wrap64 (x8_1 + 1))))) else (none)) else (none)) = some r := by first | (rw [hji19] at H; exact H) | (simp only [hji19] at H ⊢; exact H)
                    have hji19w : (IntKind.i64.wrap (x8_1 - 1)) = ji19 := (i64_w _).trans hji19
                    by_cases c20 : 0 ≤ (ji19)
                    · rw [if_pos c20] at H
                      have c20b0 : decide (0 ≤ (ji19)) = true := decide_eq_true c20
                      clear c20
                      by_cases c21 : (ji19) < (l0.length : Int)
                      · rw [if_pos c21] at H
                        have c21b0 : decide ((ji19) < (l0.length : Int)) = true := decide_eq_true c21
                        clear c21
                        by_cases c22 : ((rd_T57 l0 x8_1).f0) < ((rd_T57 l0 (ji19)).f0)
                        · rw [if_pos c22] at H
                          have c22b0 : decide (((rd_T57 l0 x8_1).f0) < ((rd_T57 l0 (ji19)).f0)) = true := decide_eq_true c22
                          clear c22
                          obtain rfl := Option.some.inj H
                          have p56003 : 0 ≤ ((ji19) : Int) := of_decide_eq_true (by first | (with_reducible assumption) | assumption)
                          have q56003 : (ji19) < (l0.length : Int) := of_decide_eq_true (by first | (with_reducible assumption) | assumption)
                          obtain ⟨ad56003, e56003, hx56003_0, hx56003_1, hx56003_2⟩ := at_T57 HR0.out (ji19) p56003 q56003
                          obtain rfl : ad56001 = ad56003 := (by injection e56003)
                          replace hx56003_0 := (HB.out.cell (World.block_lt_of_cell? w _ hx56003_0)).trans hx56003_0
                          replace hx56003_1 := (HB.out.cell (World.block_lt_of_cell? w _ hx56003_1)).trans hx56003_1
                          replace hx56003_2 := (HB.out.cell (World.block_lt_of_cell? w _ hx56003_2)).trans hx56003_2
                          replace p56003 := eq_true p56003
                          replace q56003 := eq_true q56003
                          go_wp2_with (first | ((with_reducible refine gate_dst (N := 5) rfl ?_); refine box_event ?hg (N := 5) ?hd (cs := #[.int .i64 0, .int .i64 0, .int .i64 0]) (t := 57) ?hr ?_; (case hd => rfl); (case hg => rfl); (case hr => first | (go_simp; done) | (go_simp; rfl)); intro gb56004 hg w23 hbox hb; have n0_ := Aside0.mk (blk_below (g := gb56002) (o := .cells #[.int .i64 ((rd_T57 l0 x8_1).f0), .int .i64 ((rd_T57 l0 x8_1).f1), .int .i64 ((rd_T57 l0 x8_1).f2)] 57 (0, 0)) (by (with_reducible repeat (first | refine blk_drewN ?_ _ | refine blk_drew ?_ | refine blk_alloc ?_ _)); exact BK56002.out) hb); have n1_ := Aside0.mk (below_step (by repeat (first | (with_reducible first | exact HB.out | apply below_alloc | apply pw_below_drewN | apply below_drew1 | refine below_set ?_ GE56002.out) | exact HB.out)) hb); have n2_ := Aside0.mk (hbox); have n3_ := Aside0.mk ((by rw [hg]; exact (below_size (by repeat (first | (with_reducible first | exact HB.out | apply below_alloc | apply pw_below_drewN | apply below_drew1 | refine below_set ?_ GE56002.out) | exact HB.out))) : w.heap.size ≤ gb56004)); have n4_ := Aside0.mk ((by rw [hg]; exact (below_size (by repeat (first | (with_reducible first | exact HB.out | apply below_alloc | apply pw_below_drewN | apply below_drew1 | refine below_set ?_ GE56002.out) | exact HB.out))) : w.heap.size ≤ gb56004)); have n5_ := Aside0.mk ((by rw [hg]; exact Nat.ne_of_lt (blk_lt (g := gb56002) (o := .cells #[.int .i64 ((rd_T57 l0 x8_1).f0), .int .i64 ((rd_T57 l0 x8_1).f1), .int .i64 ((rd_T57 l0 x8_1).f2)] 57 (0, 0)) (by (with_reducible repeat (first | refine blk_drewN ?_ _ | refine blk_drew ?_ | refine blk_alloc ?_ _)); exact BK56002.out)) : gb56002 ≠ gb56004)); have n6_ := Aside0.mk ((by rw [hg]; exact Nat.ne_of_gt (blk_lt (g := gb56002) (o := .cells #[.int .i64 ((rd_T57 l0 x8_1).f0), .int .i64 ((rd_T57 l0 x8_1).f1), .int .i64 ((rd_T57 l0 x8_1).f2)] 57 (0, 0)) (by (with_reducible repeat (first | refine blk_drewN ?_ _ | refine blk_drew ?_ | refine blk_alloc ?_ _)); exact BK56002.out)) : gb56004 ≠ gb56002)); clear BK56002; clear HB; have BK56002 := n0_; have HB := n1_; have BK56004 := n2_; have GW56004 := n3_; have GE56004 := n4_; have NB56002_56004 := n5_; have NB56004_56002 := n6_; clear n0_ n1_ n2_ n3_ n4_ n5_ n6_; clear hb hbox hg; have hnb24 := NB56004_56002.out; have hnc24 := NB56002_56004.out; have hcz25_0 : w23.cell? ⟨gb56004, 0, none⟩ = some (.int .i64 0) := (blk_cell BK56004.out 0).trans rfl; have hcz25_1 : w23.cell? ⟨gb56004, 1, none⟩ = some (.int .i64 0) := (blk_cell BK56004.out 1).trans rfl; have hcz25_2 : w23.cell? ⟨gb56004, 2, none⟩ = some (.int .i64 0) := (blk_cell BK56004.out 2).trans rfl; have hfz25_0 := blk_frozen BK56004.out 0; have hfz25_1 := blk_frozen BK56004.out 1; have hfz25_2 := blk_frozen BK56004.out 2; have hcz26_0 : w23.cell? ⟨gb56002, 0, none⟩ = some (.int .i64 ((rd_T57 l0 x8_1).f0)) := (blk_cell BK56002.out 0).trans rfl; have hcz26_1 : w23.cell? ⟨gb56002, 1, none⟩ = some (.int .i64 ((rd_T57 l0 x8_1).f1)) := (blk_cell BK56002.out 1).trans rfl; have hcz26_2 : w23.cell? ⟨gb56002, 2, none⟩ = some (.int .i64 ((rd_T57 l0 x8_1).f2)) := (blk_cell BK56002.out 2).trans rfl; have hfz26_0 := blk_frozen BK56002.out 0; have hfz26_1 := blk_frozen BK56002.out 1; have hfz26_2 := blk_frozen BK56002.out 2))
                          go_ret
                          exact ⟨by first | rfl | (simp [errW_none, errW_some] <;> rfl) | (simp only [← hji19]; first | rfl | (simp [errW_none, errW_some] <;> rfl)) | (simp [*, errW_none, errW_some] <;> rfl), by repeat (first | (with_reducible first | exact HB.out | apply below_alloc | apply pw_below_drewN | apply below_drew1 | refine below_set ?_ GE56002.out | refine below_set ?_ GE56004.out) | exact HB.out)⟩
                        · rw [if_neg c22] at H
                          have c22b0 : decide (((rd_T57 l0 x8_1).f0) < ((rd_T57 l0 (ji19)).f0)) = false := decide_eq_false c22
                          clear c22
                          by_cases c27 : ((rd_T57 l0 x8_1).f0) = ((rd_T57 l0 (ji19)).f0)
                          · rw [if_pos c27] at H
                            have c27b0 : (((rd_T57 l0 x8_1).f0) == ((rd_T57 l0 (ji19)).f0)) = true := beq_iff_eq.mpr c27
                            have c27b1 : (((rd_T57 l0 x8_1).f0) != ((rd_T57 l0 (ji19)).f0)) = false := bne_eq_false_iff_eq.mpr c27
                            clear c27
                            by_cases c28 : ((rd_T57 l0 x8_1).f1) ≤ ((rd_T57 l0 (ji19)).f2)
                            · rw [if_pos c28] at H
                              have c28b0 : decide (((rd_T57 l0 x8_1).f1) ≤ ((rd_T57 l0 (ji19)).f2)) = true := decide_eq_true c28
                              clear c28
                              obtain rfl := Option.some.inj H
                              have p56003 : 0 ≤ ((ji19) : Int) := of_decide_eq_true (by first | (with_reducible assumption) | assumption)
                              have q56003 : (ji19) < (l0.length : Int) := of_decide_eq_true (by first | (with_reducible assumption) | assumption)
                              obtain ⟨ad56003, e56003, hx56003_0, hx56003_1, hx56003_2⟩ := at_T57 HR0.out (ji19) p56003 q56003
                              obtain rfl : ad56001 = ad56003 := (by injection e56003)
                              replace hx56003_0 := (HB.out.cell (World.block_lt_of_cell? w _ hx56003_0)).trans hx56003_0
                              replace hx56003_1 := (HB.out.cell (World.block_lt_of_cell? w _ hx56003_1)).trans hx56003_1
                              replace hx56003_2 := (HB.out.cell (World.block_lt_of_cell? w _ hx56003_2)).trans hx56003_2
                              replace p56003 := eq_true p56003
                              replace q56003 := eq_true q56003
                              go_wp2_with (first | ((with_reducible refine gate_dst (N := 5) rfl ?_); refine box_event ?hg (N := 5) ?hd (cs := #[.int .i64 0, .int .i64 0, .int .i64 0]) (t := 57) ?hr ?_; (case hd => rfl); (case hg => rfl); (case hr => first | (go_simp; done) | (go_simp; rfl)); intro gb56004 hg w29 hbox hb; have n0_ := Aside0.mk (blk_below (g := gb56002) (o := .cells #[.int .i64 ((rd_T57 l0 x8_1).f0), .int .i64 ((rd_T57 l0 x8_1).f1), .int .i64 ((rd_T57 l0 x8_1).f2)] 57 (0, 0)) (by (with_reducible repeat (first | refine blk_drewN ?_ _ | refine blk_drew ?_ | refine blk_alloc ?_ _)); exact BK56002.out) hb); have n1_ := Aside0.mk (below_step (by repeat (first | (with_reducible first | exact HB.out | apply below_alloc | apply pw_below_drewN | apply below_drew1 | refine below_set ?_ GE56002.out) | exact HB.out)) hb); have n2_ := Aside0.mk (hbox); have n3_ := Aside0.mk ((by rw [hg]; exact (below_size (by repeat (first | (with_reducible first | exact HB.out | apply below_alloc | apply pw_below_drewN | apply below_drew1 | refine below_set ?_ GE56002.out) | exact HB.out))) : w.heap.size ≤ gb56004)); have n4_ := Aside0.mk ((by rw [hg]; exact (below_size (by repeat (first | (with_reducible first | exact HB.out | apply below_alloc | apply pw_below_drewN | apply below_drew1 | refine below_set ?_ GE56002.out) | exact HB.out))) : w.heap.size ≤ gb56004)); have n5_ := Aside0.mk ((by rw [hg]; exact Nat.ne_of_lt (blk_lt (g := gb56002) (o := .cells #[.int .i64 ((rd_T57 l0 x8_1).f0), .int .i64 ((rd_T57 l0 x8_1).f1), .int .i64 ((rd_T57 l0 x8_1).f2)] 57 (0, 0)) (by (with_reducible repeat (first | refine blk_drewN ?_ _ | refine blk_drew ?_ | refine blk_alloc ?_ _)); exact BK56002.out)) : gb56002 ≠ gb56004)); have n6_ := Aside0.mk ((by rw [hg]; exact Nat.ne_of_gt (blk_lt (g := gb56002) (o := .cells #[.int .i64 ((rd_T57 l0 x8_1).f0), .int .i64 ((rd_T57 l0 x8_1).f1), .int .i64 ((rd_T57 l0 x8_1).f2)] 57 (0, 0)) (by (with_reducible repeat (first | refine blk_drewN ?_ _ | refine blk_drew ?_ | refine blk_alloc ?_ _)); exact BK56002.out)) : gb56004 ≠ gb56002)); clear BK56002; clear HB; have BK56002 := n0_; have HB := n1_; have BK56004 := n2_; have GW56004 := n3_; have GE56004 := n4_; have NB56002_56004 := n5_; have NB56004_56002 := n6_; clear n0_ n1_ n2_ n3_ n4_ n5_ n6_; clear hb hbox hg; have hnb30 := NB56004_56002.out; have hnc30 := NB56002_56004.out; have hcz31_0 : w29.cell? ⟨gb56004, 0, none⟩ = some (.int .i64 0) := (blk_cell BK56004.out 0).trans rfl; have hcz31_1 : w29.cell? ⟨gb56004, 1, none⟩ = some (.int .i64 0) := (blk_cell BK56004.out 1).trans rfl; have hcz31_2 : w29.cell? ⟨gb56004, 2, none⟩ = some (.int .i64 0) := (blk_cell BK56004.out 2).trans rfl; have hfz31_0 := blk_frozen BK56004.out 0; have hfz31_1 := blk_frozen BK56004.out 1; have hfz31_2 := blk_frozen BK56004.out 2; have hcz32_0 : w29.cell? ⟨gb56002, 0, none⟩ = some (.int .i64 ((rd_T57 l0 x8_1).f0)) := (blk_cell BK56002.out 0).trans rfl; have hcz32_1 : w29.cell? ⟨gb56002, 1, none⟩ = some (.int .i64 ((rd_T57 l0 x8_1).f1)) := (blk_cell BK56002.out 1).trans rfl; have hcz32_2 : w29.cell? ⟨gb56002, 2, none⟩ = some (.int .i64 ((rd_T57 l0 x8_1).f2)) := (blk_cell BK56002.out 2).trans rfl; have hfz32_0 := blk_frozen BK56002.out 0; have hfz32_1 := blk_frozen BK56002.out 1; have hfz32_2 := blk_frozen BK56002.out 2))
                              go_ret
                              exact ⟨by first | rfl | (simp [errW_none, errW_some] <;> rfl) | (simp only [← hji19]; first | rfl | (simp [errW_none, errW_some] <;> rfl)) | (simp [*, errW_none, errW_some] <;> rfl), by repeat (first | (with_reducible first | exact HB.out | apply below_alloc | apply pw_below_drewN | apply below_drew1 | refine below_set ?_ GE56002.out | refine below_set ?_ GE56004.out) | exact HB.out)⟩
                            · rw [if_neg c28] at H
                              have c28b0 : decide (((rd_T57 l0 x8_1).f1) ≤ ((rd_T57 l0 (ji19)).f2)) = false := decide_eq_false c28
                              clear c28
                              have H' := Aside0.mk H
                              clear H
                              have p56003 : 0 ≤ ((ji19) : Int) := of_decide_eq_true (by first | (with_reducible assumption) | assumption)
                              have q56003 : (ji19) < (l0.length : Int) := of_decide_eq_true (by first | (with_reducible assumption) | assumption)
                              obtain ⟨ad56003, e56003, hx56003_0, hx56003_1, hx56003_2⟩ := at_T57 HR0.out (ji19) p56003 q56003
                              obtain rfl : ad56001 = ad56003 := (by injection e56003)
                              replace hx56003_0 := (HB.out.cell (World.block_lt_of_cell? w _ hx56003_0)).trans hx56003_0
                              replace hx56003_1 := (HB.out.cell (World.block_lt_of_cell? w _ hx56003_1)).trans hx56003_1
                              replace hx56003_2 := (HB.out.cell (World.block_lt_of_cell? w _ hx56003_2)).trans hx56003_2
                              replace p56003 := eq_true p56003
                              replace q56003 := eq_true q56003
                              go_wp2_with (first | ((with_reducible refine gate_dst (N := 5) rfl ?_); refine box_event ?hg (N := 5) ?hd (cs := #[.int .i64 0, .int .i64 0, .int .i64 0]) (t := 57) ?hr ?_; (case hd => rfl); (case hg => rfl); (case hr => first | (go_simp; done) | (go_simp; rfl)); intro gb56004 hg w33 hbox hb; have n0_ := Aside0.mk (blk_below (g := gb56002) (o := .cells #[.int .i64 ((rd_T57 l0 x8_1).f0), .int .i64 ((rd_T57 l0 x8_1).f1), .int .i64 ((rd_T57 l0 x8_1).f2)] 57 (0, 0)) (by (with_reducible repeat (first | refine blk_drewN ?_ _ | refine blk_drew ?_ | refine blk_alloc ?_ _)); exact BK56002.out) hb); have n1_ := Aside0.mk (below_step (by repeat (first | (with_reducible first | exact HB.out | apply below_alloc | apply pw_below_drewN | apply below_drew1 | refine below_set ?_ GE56002.out) | exact HB.out)) hb); have n2_ := Aside0.mk (hbox); have n3_ := Aside0.mk ((by rw [hg]; exact (below_size (by repeat (first | (with_reducible first | exact HB.out | apply below_alloc | apply pw_below_drewN | apply below_drew1 | refine below_set ?_ GE56002.out) | exact HB.out))) : w.heap.size ≤ gb56004)); have n4_ := Aside0.mk ((by rw [hg]; exact (below_size (by repeat (first | (with_reducible first | exact HB.out | apply below_alloc | apply pw_below_drewN | apply below_drew1 | refine below_set ?_ GE56002.out) | exact HB.out))) : w.heap.size ≤ gb56004)); have n5_ := Aside0.mk ((by rw [hg]; exact Nat.ne_of_lt (blk_lt (g := gb56002) (o := .cells #[.int .i64 ((rd_T57 l0 x8_1).f0), .int .i64 ((rd_T57 l0 x8_1).f1), .int .i64 ((rd_T57 l0 x8_1).f2)] 57 (0, 0)) (by (with_reducible repeat (first | refine blk_drewN ?_ _ | refine blk_drew ?_ | refine blk_alloc ?_ _)); exact BK56002.out)) : gb56002 ≠ gb56004)); have n6_ := Aside0.mk ((by rw [hg]; exact Nat.ne_of_gt (blk_lt (g := gb56002) (o := .cells #[.int .i64 ((rd_T57 l0 x8_1).f0), .int .i64 ((rd_T57 l0 x8_1).f1), .int .i64 ((rd_T57 l0 x8_1).f2)] 57 (0, 0)) (by (with_reducible repeat (first | refine blk_drewN ?_ _ | refine blk_drew ?_ | refine blk_alloc ?_ _)); exact BK56002.out)) : gb56004 ≠ gb56002)); clear BK56002; clear HB; have BK56002 := n0_; have HB := n1_; have BK56004 := n2_; have GW56004 := n3_; have GE56004 := n4_; have NB56002_56004 := n5_; have NB56004_56002 := n6_; clear n0_ n1_ n2_ n3_ n4_ n5_ n6_; clear hb hbox hg; have hnb34 := NB56004_56002.out; have hnc34 := NB56002_56004.out; have hcz35_0 : w33.cell? ⟨gb56004, 0, none⟩ = some (.int .i64 0) := (blk_cell BK56004.out 0).trans rfl; have hcz35_1 : w33.cell? ⟨gb56004, 1, none⟩ = some (.int .i64 0) := (blk_cell BK56004.out 1).trans rfl; have hcz35_2 : w33.cell? ⟨gb56004, 2, none⟩ = some (.int .i64 0) := (blk_cell BK56004.out 2).trans rfl; have hfz35_0 := blk_frozen BK56004.out 0; have hfz35_1 := blk_frozen BK56004.out 1; have hfz35_2 := blk_frozen BK56004.out 2; have hcz36_0 : w33.cell? ⟨gb56002, 0, none⟩ = some (.int .i64 ((rd_T57 l0 x8_1).f0)) := (blk_cell BK56002.out 0).trans rfl; have hcz36_1 : w33.cell? ⟨gb56002, 1, none⟩ = some (.int .i64 ((rd_T57 l0 x8_1).f1)) := (blk_cell BK56002.out 1).trans rfl; have hcz36_2 : w33.cell? ⟨gb56002, 2, none⟩ = some (.int .i64 ((rd_T57 l0 x8_1).f2)) := (blk_cell BK56002.out 2).trans rfl; have hfz36_0 := blk_frozen BK56002.out 0; have hfz36_1 := blk_frozen BK56002.out 1; have hfz36_2 := blk_frozen BK56002.out 2))
                              go_roundg kj4
                              case measure => have := HK1.out; have := HJ4.out; omega
                              case rel => exact ⟨(wrap64 (x8_1 + 1)), (by first | rfl | (simp; done) | (simp [*]; done)), H', ⟨by have := HK1.out; have := HJ4.out; omega⟩, ⟨by repeat (first | (with_reducible first | exact HB.out | apply below_alloc | apply pw_below_drewN | apply below_drew1 | refine below_set ?_ GE56002.out | refine below_set ?_ GE56004.out) | exact HB.out)⟩⟩
                          · rw [if_neg c27] at H
                            have c27b0 : (((rd_T57 l0 x8_1).f0) == ((rd_T57 l0 (ji19)).f0)) = false := beq_eq_false_iff_ne.mpr c27
                            have c27b1 : (((rd_T57 l0 x8_1).f0) != ((rd_T57 l0 (ji19)).f0)) = true := bne_iff_ne.mpr c27
                            have H' := Aside0.mk H
                            clear H
                            have p56003 : 0 ≤ ((ji19) : Int) := of_decide_eq_true (by first | (with_reducible assumption) | assumption)
                            have q56003 : (ji19) < (l0.length : Int) := of_decide_eq_true (by first | (with_reducible assumption) | assumption)
                            obtain ⟨ad56003, e56003, hx56003_0, hx56003_1, hx56003_2⟩ := at_T57 HR0.out (ji19) p56003 q56003
                            obtain rfl : ad56001 = ad56003 := (by injection e56003)
                            replace hx56003_0 := (HB.out.cell (World.block_lt_of_cell? w _ hx56003_0)).trans hx56003_0
                            replace hx56003_1 := (HB.out.cell (World.block_lt_of_cell? w _ hx56003_1)).trans hx56003_1
                            replace hx56003_2 := (HB.out.cell (World.block_lt_of_cell? w _ hx56003_2)).trans hx56003_2
                            replace p56003 := eq_true p56003
                            replace q56003 := eq_true q56003
                            go_wp2_with (first | ((with_reducible refine gate_dst (N := 5) rfl ?_); refine box_event ?hg (N := 5) ?hd (cs := #[.int .i64 0, .int .i64 0, .int .i64 0]) (t := 57) ?hr ?_; (case hd => rfl); (case hg => rfl); (case hr => first | (go_simp; done) | (go_simp; rfl)); intro gb56004 hg w37 hbox hb; have n0_ := Aside0.mk (blk_below (g := gb56002) (o := .cells #[.int .i64 ((rd_T57 l0 x8_1).f0), .int .i64 ((rd_T57 l0 x8_1).f1), .int .i64 ((rd_T57 l0 x8_1).f2)] 57 (0, 0)) (by (with_reducible repeat (first | refine blk_drewN ?_ _ | refine blk_drew ?_ | refine blk_alloc ?_ _)); exact BK56002.out) hb); have n1_ := Aside0.mk (below_step (by repeat (first | (with_reducible first | exact HB.out | apply below_alloc | apply pw_below_drewN | apply below_drew1 | refine below_set ?_ GE56002.out) | exact HB.out)) hb); have n2_ := Aside0.mk (hbox); have n3_ := Aside0.mk ((by rw [hg]; exact (below_size (by repeat (first | (with_reducible first | exact HB.out | apply below_alloc | apply pw_below_drewN | apply below_drew1 | refine below_set ?_ GE56002.out) | exact HB.out))) : w.heap.size ≤ gb56004)); have n4_ := Aside0.mk ((by rw [hg]; exact (below_size (by repeat (first | (with_reducible first | exact HB.out | apply below_alloc | apply pw_below_drewN | apply below_drew1 | refine below_set ?_ GE56002.out) | exact HB.out))) : w.heap.size ≤ gb56004)); have n5_ := Aside0.mk ((by rw [hg]; exact Nat.ne_of_lt (blk_lt (g := gb56002) (o := .cells #[.int .i64 ((rd_T57 l0 x8_1).f0), .int .i64 ((rd_T57 l0 x8_1).f1), .int .i64 ((rd_T57 l0 x8_1).f2)] 57 (0, 0)) (by (with_reducible repeat (first | refine blk_drewN ?_ _ | refine blk_drew ?_ | refine blk_alloc ?_ _)); exact BK56002.out)) : gb56002 ≠ gb56004)); have n6_ := Aside0.mk ((by rw [hg]; exact Nat.ne_of_gt (blk_lt (g := gb56002) (o := .cells #[.int .i64 ((rd_T57 l0 x8_1).f0), .int .i64 ((rd_T57 l0 x8_1).f1), .int .i64 ((rd_T57 l0 x8_1).f2)] 57 (0, 0)) (by (with_reducible repeat (first | refine blk_drewN ?_ _ | refine blk_drew ?_ | refine blk_alloc ?_ _)); exact BK56002.out)) : gb56004 ≠ gb56002)); clear BK56002; clear HB; have BK56002 := n0_; have HB := n1_; have BK56004 := n2_; have GW56004 := n3_; have GE56004 := n4_; have NB56002_56004 := n5_; have NB56004_56002 := n6_; clear n0_ n1_ n2_ n3_ n4_ n5_ n6_; clear hb hbox hg; have hnb38 := NB56004_56002.out; have hnc38 := NB56002_56004.out; have hcz39_0 : w37.cell? ⟨gb56004, 0, none⟩ = some (.int .i64 0) := (blk_cell BK56004.out 0).trans rfl; have hcz39_1 : w37.cell? ⟨gb56004, 1, none⟩ = some (.int .i64 0) := (blk_cell BK56004.out 1).trans rfl; have hcz39_2 : w37.cell? ⟨gb56004, 2, none⟩ = some (.int .i64 0) := (blk_cell BK56004.out 2).trans rfl; have hfz39_0 := blk_frozen BK56004.out 0; have hfz39_1 := blk_frozen BK56004.out 1; have hfz39_2 := blk_frozen BK56004.out 2; have hcz40_0 : w37.cell? ⟨gb56002, 0, none⟩ = some (.int .i64 ((rd_T57 l0 x8_1).f0)) := (blk_cell BK56002.out 0).trans rfl; have hcz40_1 : w37.cell? ⟨gb56002, 1, none⟩ = some (.int .i64 ((rd_T57 l0 x8_1).f1)) := (blk_cell BK56002.out 1).trans rfl; have hcz40_2 : w37.cell? ⟨gb56002, 2, none⟩ = some (.int .i64 ((rd_T57 l0 x8_1).f2)) := (blk_cell BK56002.out 2).trans rfl; have hfz40_0 := blk_frozen BK56002.out 0; have hfz40_1 := blk_frozen BK56002.out 1; have hfz40_2 := blk_frozen BK56002.out 2))
                            go_roundg kj4
                            case measure => have := HK1.out; have := HJ4.out; omega
                            case rel => exact ⟨(wrap64 (x8_1 + 1)), (by first | rfl | (simp; done) | (simp [*]; done)), H', ⟨by have := HK1.out; have := HJ4.out; omega⟩, ⟨by repeat (first | (with_reducible first | exact HB.out | apply below_alloc | apply pw_below_drewN | apply below_drew1 | refine below_set ?_ GE56002.out | refine below_set ?_ GE56004.out) | exact HB.out)⟩⟩
                      · rw [if_neg c21] at H
                        exact absurd H (by simp)
                    · rw [if_neg c20] at H
                      exact absurd H (by simp)
          · rw [if_neg c4] at H
            exact absurd H (by simp)
        · rw [if_neg c3] at H
          exact absurd H (by simp)
      · rw [if_neg c2] at H
        have c2b0 : decide (x8_1 < (l0.length : Int)) = false := decide_eq_false c2
        clear c2
        obtain rfl := Option.some.inj H
        go_wp2
        go_ret
        exact ⟨by first | rfl | (simp [errW_none, errW_some] <;> rfl) | (simp [*, errW_none, errW_some] <;> rfl), by repeat (first | (with_reducible first | exact HB.out | apply below_alloc | apply pw_below_drewN | apply below_drew1) | exact HB.out)⟩

end Go.Proofs.Ytfgeickfheogoaa.Q

namespace Go.Proofs.Ytfgeickfheogoaa.Q
open Go.RowKit Go.Proofs.YtfgeickfheogoaaW.PrintWords Go.Proofs.YtfgeickfheogoaaW.PrintLast Go.Proofs.YtfgeickfheogoaaW.PrintMore
attribute [local go_sem] max2_int min2_int max_two min_two max_three min_three max_four min_four
set_option linter.unusedVariables false
set_option linter.unusedSimpArgs false
/-! ### spec_inRange: function 57 -/
def spec_inRange.f (a0 : Int) (a1 : Int) (a2 : Int) : Option (Bool) := if a1 ≤ a0 then (some (decide (a0 ≤ a2))) else (some false)
set_option maxHeartbeats 8000000 in
set_option maxRecDepth 100000 in
theorem spec_inRange.calls (a0 : Int) (a1 : Int) (a2 : Int) (r : Bool) (w : World) (h : spec_inRange.f a0 a1 a2 = some r) :
    Calls Try.prog 57 #[.int .i64 a0, .int .i64 a1, .int .i64 a2] w fun e w' => e = .returned (.bool r) ∧ Drawn0 w w' := by
  have H : (if a1 ≤ a0 then (some (decide (a0 ≤ a2))) else (some false)) = some r := h
  clear h
  by_cases c4 : a1 ≤ a0
  · rw [if_pos c4] at H
    have c4b0 : decide (a1 ≤ a0) = true := decide_eq_true c4
    clear c4
    obtain rfl := Option.some.inj H
    go_enter Try.func57, Try.ntmps57
    go_wp2
    go_ret
    exact ⟨by first | rfl | (simp; done) | (simp [*]; done), by repeat (first | exact Drawn0.refl _ | apply Drawn0.step)⟩
  · rw [if_neg c4] at H
    have c4b0 : decide (a1 ≤ a0) = false := decide_eq_false c4
    clear c4
    obtain rfl := Option.some.inj H
    go_enter Try.func57, Try.ntmps57
    go_wp2
    go_ret
    exact ⟨by first | rfl | (simp; done) | (simp [*]; done), by repeat (first | exact Drawn0.refl _ | apply Drawn0.step)⟩

end Go.Proofs.Ytfgeickfheogoaa.Q
